/- Stamps of the reference: the stamps of a history, ascending. No condition but the lengths. StateAt of the reference. No condition but the lengths. -/
import Derived.Test.YtglplgbhhnmgbaaGreatOM0
import Derived.Test.YtglplgbhhnmgbaaGreatMineV
import Derived.Test.YtglplgbhhnmgbaaGreatFlat
namespace Go.Proofs.YtglplgbhhnmgbaaGreat
open Go.RowKit Go.Deep
set_option linter.unusedSimpArgs false
set_option linter.unusedVariables false

def sorted (l : List Wrote) : List Int := (l.map (·.stamp_)).mergeSort fun a b => decide (a ≤ b)
noncomputable def stampsOf (l : List Wrote) : List Int := if histOk l = true then sorted l else []
theorem sorted_len (l : List Wrote) : (sorted l).length = l.length := by unfold sorted; rw [(List.mergeSort_perm _ _).length_eq, List.length_map]
theorem sorted_mem {l : List Wrote} {x : Int} : x ∈ sorted l ↔ ∃ (i : Nat) (y : Wrote), l[i]? = some y ∧ y.stamp_ = x := by
  unfold sorted
  rw [(List.mergeSort_perm _ _).mem_iff, List.mem_map]
  constructor
  · rintro ⟨y, hy, e⟩
    obtain ⟨i, hi⟩ := List.mem_iff_getElem?.1 hy
    exact ⟨i, y, hi, e⟩
  · rintro ⟨i, y, hy, e⟩
    exact ⟨y, List.mem_of_getElem? hy, e⟩
theorem hist_one {l : List Wrote} (h : histOk l = true) {i : Nat} {y : Wrote} (hy : l[i]? = some y) : hOne l i y := (dec_true h).2 i (List.getElem?_eq_some_iff.1 hy).1 y hy
theorem sorted_lt {l : List Wrote} (h : histOk l = true) {i j : Nat} {x y : Int} (hij : i < j) (hx : (sorted l)[i]? = some x) (hy : (sorted l)[j]? = some y) : x < y := by
  have hn : (l.map (·.stamp_)).Nodup := by
    rw [List.Nodup, List.pairwise_iff_getElem]
    intro a b ha hb hab
    simp only [List.length_map] at ha hb
    have := (hist_one h (List.getElem?_eq_getElem hb)).2.2.2 a _ hab (List.getElem?_eq_getElem ha)
    simpa using this
  have h1 : (sorted l).Nodup := (List.mergeSort_perm _ _).symm.nodup hn
  have h2 : (sorted l).Pairwise (fun a b => decide (a ≤ b) = true) := List.pairwise_mergeSort (fun a b c h1 h2 => by simp at *; omega) (fun a b => by simp; omega) _
  obtain ⟨ix, ex⟩ := List.getElem?_eq_some_iff.1 hx
  obtain ⟨iy, ey⟩ := List.getElem?_eq_some_iff.1 hy
  have h3 := List.pairwise_iff_getElem.1 h1 i j ix iy hij
  have h4 := List.pairwise_iff_getElem.1 h2 i j ix iy hij
  rw [ex, ey] at h3 h4
  have h5 : x ≤ y := by simpa using h4
  omega
theorem stamp_in {l : List Wrote} (h : histOk l = true) {x : Int} (hx : x ∈ sorted l) : 1 ≤ x ∧ x ≤ 1000000 := by
  obtain ⟨i, y, hy, rfl⟩ := sorted_mem.1 hx
  exact (hist_one h hy).1
/-- L is the last of the first k. -/
def lastIs (l : List Wrote) (k : Nat) (L : Int) : Prop := (k = 0 ∧ L = 0) ∨ (0 < k ∧ (sorted l)[k - 1]? = some L)
/-- The least stamp behind L among the first j. -/
def bestIs (l : List Wrote) (L : Int) (j : Nat) (b : Int) : Prop := (b = 1000001 ∨ ∃ (i : Nat) (y : Wrote), i < j ∧ l[i]? = some y ∧ y.stamp_ = b ∧ L < b) ∧ ∀ (i : Nat) (y : Wrote), i < j → l[i]? = some y → L < y.stamp_ → b ≤ y.stamp_
theorem best_next {l : List Wrote} (h : histOk l = true) {k : Nat} {L b : Int} (hk : k < l.length) (hL : lastIs l k L) (hb : bestIs l L l.length b) : (sorted l)[k]? = some b := by
  have hks : k < (sorted l).length := by rw [sorted_len]; exact hk
  have hx := List.getElem?_eq_getElem hks
  generalize (sorted l)[k] = x at hx
  have hxm : x ∈ sorted l := List.mem_of_getElem? hx
  have hLx : L < x := by
    rcases hL with ⟨_, rfl⟩ | ⟨h0, hl⟩
    · have := stamp_in h hxm; omega
    · exact sorted_lt h (by omega) hl hx
  obtain ⟨i, y, hy, hyx⟩ := sorted_mem.1 hxm
  have h1 := hb.2 i y (List.getElem?_eq_some_iff.1 hy).1 hy (by rw [hyx]; exact hLx)
  rw [hyx] at h1
  have hxi := stamp_in h hxm
  rcases hb.1 with e | ⟨i2, y2, _, hy2, e2, hLb⟩
  · omega
  · have hbm : b ∈ sorted l := sorted_mem.2 ⟨i2, y2, hy2, e2⟩
    obtain ⟨q, hq⟩ := List.mem_iff_getElem?.1 hbm
    by_cases hqk : q < k
    · exfalso
      rcases hL with ⟨h0, _⟩ | ⟨h0, hl⟩
      · omega
      · by_cases e : q = k - 1
        · subst e; rw [hl] at hq; injection hq with hq; omega
        · have := sorted_lt h (show q < k - 1 by omega) hq hl; omega
    · by_cases e : q = k
      · subst e; exact hq
      · have := sorted_lt h (show k < q by omega) hx hq; omega
theorem best_skip {l : List Wrote} {L b : Int} {j : Nat} {y : Wrote} (hb : bestIs l L j b) (hy : l[j]? = some y) (h : ¬ (L < y.stamp_ ∧ y.stamp_ < b)) : bestIs l L (j + 1) b := by
  refine ⟨?_, fun i z hi hz hL => ?_⟩
  · rcases hb.1 with e | ⟨i, z, hi, r⟩
    · exact .inl e
    · exact .inr ⟨i, z, by omega, r⟩
  · by_cases e : i = j
    · subst e; rw [hy] at hz; injection hz with hz; subst hz; omega
    · exact hb.2 i z (by omega) hz hL
theorem best_take {l : List Wrote} {L b : Int} {j : Nat} {y : Wrote} (hb : bestIs l L j b) (hy : l[j]? = some y) (h : L < y.stamp_ ∧ y.stamp_ < b) : bestIs l L (j + 1) y.stamp_ := by
  refine ⟨.inr ⟨j, y, Nat.lt_succ_self j, hy, rfl, h.1⟩, fun i z hi hz hL => ?_⟩
  by_cases e : i = j
  · subst e; rw [hy] at hz; injection hz with hz; subst hz; omega
  · have := hb.2 i z (by omega) hz hL; omega
def lenSt : Value → Nat
  | .slice _ n _ => n
  | _ => 0
theorem own_emptySt (w : World) : (w.alloc (.cells #[] 3)).ownsRow w.heap.size 3 1 (.slice (some ⟨w.heap.size, 0, none⟩) 0 0) 0 (ints []) :=
  World.ownsRow_lit w #[] 0 (Nat.le_refl _) (Nat.zero_le _) (by simp [ints])

set_option maxRecDepth 4000 in
set_option maxHeartbeats 8000000 in
theorem spec_Stamps (A : Option Addr) (n c : Nat) (l : List Wrote) (w : World) (S : Nat → Prop) (hs : SlR Wrote.R 3 w S A n l) (hm : n ≤ 1048576) (hp : ∀ x ∈ l, x.puts_.length ≤ 1048576) :
    Calls Tryz.prog 55 #[.slice A n c] w fun e w' => ∃ B m d, e = .returned (.slice B m d) ∧ w'.ownsRow w.heap.size 3 1 (.slice B m d) m (ints (stampsOf l)) ∧ Ext w w' := by
  have H : Hid (l.length = n) := hs.1
  have HS := Lib.hid hs
  have HP := Lib.hid hp
  clear hs hp
  have M : Hid (Mine w w []) := Mine.refl w
  go_enter Tryz.func55, Tryz.ntmps55
  go_wp2_with fail
  replace M := Lib.hid (M.out.own (own_emptySt _) ((Ext.refl' _).al _))
  refine (spec_HistOk A n c l _ S (HS.out.ext Wrote.R_good M.out.ext) hm HP.out).mono ?_
  rintro e w1 ⟨rfl, x1⟩
  replace M := Lib.hid (M.out.on x1)
  clear x1
  cases hok : histOk l
  · have e0 : Hid (stampsOf l = []) := by show _ = _; unfold stampsOf; rw [hok]; rfl
    clear hok
    go_wp2
    go_ret
    rw [e0.out]
    exact ⟨_, _, _, rfl, M.out.row_at 0 rfl, M.out.ext⟩
  have e0 : Hid (stampsOf l = sorted l) := by show _ = _; unfold stampsOf; rw [hok]; rfl
  have HOK := Lib.hid hok
  have hn200 : (n : Int) ≤ 1048576 := by omega
  clear hok
  go_wp2
  go_loopw [3, 4] (fun u la wr => ∃ (k d : Nat) (B : Option Addr) (L : Int), k ≤ n ∧ u = .slice B k d ∧ la = .int .i64 L ∧ Hid (lastIs l k L) ∧ Hid (Mine w wr [.row 3 1 B k d (ints ((sorted l).take k))])) (fun u _ _ => n - lenSt u)
  case atStart => exact ⟨0, _, _, 0, Nat.zero_le _, rfl, rfl, .inl ⟨rfl, rfl⟩, M⟩
  case round =>
    clear M
    obtain ⟨k, d, B, L, hk, rfl, rfl, HL, M⟩ := hrel
    by_cases hlt : (k : Int) < (n : Int)
    rotate_left
    · obtain rfl : n = k := by omega
      go_wp2
      go_ret
      rw [e0.out]
      have h := M.out
      rw [List.take_of_length_le (by rw [sorted_len, H.out]; exact Nat.le_refl _)] at h
      exact ⟨_, _, _, rfl, h.row_at 0 rfl, h.ext⟩
    have HK : Hid (k < n) := by show _ < _; omega
    go_wp2
    go_loopw [5, 6] (fun be i wr => ∃ (j : Nat) (b : Int), j ≤ n ∧ be = .int .i64 b ∧ i = .int .i64 j ∧ Hid (bestIs l L j b) ∧ Hid (Mine w wr [.row 3 1 B k d (ints ((sorted l).take k))])) (fun _ i _ => n - (intOf i).toNat)
    case atStart => exact ⟨0, 1000001, Nat.zero_le _, rfl, rfl, ⟨.inl rfl, fun _ _ h => absurd h (Nat.not_lt_zero _)⟩, M⟩
    case round =>
      clear M
      obtain ⟨j, b, hj, rfl, rfl, HB, M⟩ := hrel
      by_cases hjn : (j : Int) < (n : Int)
      rotate_left
      · have hb := HB.out
        rw [show j = l.length by rw [H.out]; omega] at hb
        have hbk := best_next HOK.out (by rw [H.out]; exact HK.out) HL.out hb
        have HBK := Lib.hid hbk
        clear hb hbk
        go_wp2_with (first | (at_builtin; refine Mine.wp_push M.out rfl _ _ 22 rfl 3 _ _ _ Tryz.underlying22 Tryz.infoInt rfl (by omega) 0 rfl rfl _ _ rfl rfl rfl (by simp [Value.oneCell']) (by omega) (by unfold maxLen; omega) ?_; intro A2 c2 w' M'; (try simp only [Act.put, List.setIfInBounds_toArray, List.set_cons_zero, List.set_cons_succ, List.drop_succ_cons, List.drop_zero, List.take_succ_cons, List.take_zero, putAt, ints_set, ints_push, List.getElem_toArray, List.getElem_cons_zero, List.getElem_cons_succ] at M'); replace M := Lib.hid M'; clear M'))
        rw [show (sorted l).take k ++ [b] = (sorted l).take (k + 1) by rw [List.take_add_one, HBK.out]; rfl] at M
        go_roundw
        case rel => exact ⟨k + 1, _, _, b, HK.out, rfl, rfl, .inr ⟨Nat.succ_pos _, HBK.out⟩, M⟩
        case measure => have := HK.out; simp [lenSt]; omega
      have HJ : Hid (j < n) := by show _ < _; omega
      obtain ⟨bb, o, rfl⟩ := HS.out.addr (by omega)
      obtain ⟨y, _, _, _, hy, hb, q0, _, _, _, _, _⟩ := hist_at (HS.out.ext Wrote.R_good M.out.ext) HJ.out
      obtain ⟨y0, y1, y2⟩ := y
      simp only at q0
      have HY := Lib.hid hy
      clear hy
      by_cases h1 : L < y0
      rotate_left
      · have b1 : decide (L < y0) = false := decide_eq_false h1
        have HN := Lib.hid (best_skip HB.out HY.out (fun q => h1 q.1))
        clear h1
        go_wp2
        go_roundw
        case rel => exact ⟨j + 1, b, HJ.out, rfl, by go_num, HN, M⟩
        case measure => have := HJ.out; simp [intOf]; omega
      have b1 : decide (L < y0) = true := decide_eq_true h1
      by_cases h2 : y0 < b
      rotate_left
      · have b2 : decide (y0 < b) = false := decide_eq_false h2
        have HN := Lib.hid (best_skip HB.out HY.out (fun q => h2 q.2))
        clear h2
        go_wp2
        go_roundw
        case rel => exact ⟨j + 1, b, HJ.out, rfl, by go_num, HN, M⟩
        case measure => have := HJ.out; simp [intOf]; omega
      have b2 : decide (y0 < b) = true := decide_eq_true h2
      have HN := Lib.hid (best_take HB.out HY.out ⟨h1, h2⟩)
      go_wp2
      go_roundw
      case rel => exact ⟨j + 1, y0, HJ.out, rfl, by go_num, HN, M⟩
      case measure => have := HJ.out; simp [intOf]; omega
end Go.Proofs.YtglplgbhhnmgbaaGreat

namespace Go.Proofs.YtglplgbhhnmgbaaGreat
open Go.RowKit Go.Deep
set_option linter.unusedSimpArgs false
set_option linter.unusedVariables false

theorem Mine.wp_pour {P : Program} {ops : Array Oper} {rest : List Oper} {o : Oper} {a : Act} {Q : Exit → Act → World → Prop} {b w : World} {rs : List Res} (M : Mine b w rs) (hgd : o.guard = none) (s x : Operand) (t : TypeId) (ho : o.op = .call { callee := .builtin .append, args := #[s, x], argTypes := #[t, t] })
    (e : TypeId) (z : Value) (size bytes : Nat) (ht : P.underlying t = some (.slice e)) (hf : (P.info? e).map (fun i => (i.zero, i.size, i.bytes)) = some (some z, size, bytes)) (hzs : z.cells.size = size) (hsz : 0 < size)
    (i : Nat) {A0 : Option Addr} {n0 c0 : Nat} {xs : List Value} (hi : rs[i]? = some (.row e size A0 n0 c0 xs)) (hs : a.eval s = .slice A0 n0 c0)
    (S : Nat → Prop) (A : Option Addr) (m c : Nat) (news : List Value) (hx : a.eval x = .slice A m c) (hr : Sl w S size A m news) (h1 : ∀ u ∈ news, u.oneCell' = true)
    (hbytes : (n0 + m) * bytes ≤ 140737488355328) (h63 : n0 + m ≤ maxLen)
    (h : ∀ A' c' w', Mine b w' (rs.set i (.row e size A' (n0 + m) c' (xs ++ news))) → wpList P ops Q rest (a.put o.dst (.slice A' (n0 + m) c')) w') : wpList P ops Q (o :: rest) a w :=
  wpList_plain hgd fun _ hK => by
  obtain ⟨i0, hf, hz0, hz1, hz2⟩ := info_parts hf
  obtain ⟨v', w', hrun, h2, h3, h5⟩ := run_pour (P := P) w b.heap.size t o.type e i0 z size bytes ht hf hz0 hz1 hz2 hzs hsz (.slice A0 n0 c0) n0 xs (M.row_at i hi) S A m c news hr h1 h63 hbytes M.size
  obtain ⟨A', c', rfl⟩ : ∃ A' c', v' = .slice A' (n0 + m) c' := by
    rcases h2.2 with ⟨hv, h0⟩ | ⟨g, cap, cur, hv, _⟩
    · exact ⟨none, 0, by rw [hv, h0]⟩
    · exact ⟨_, _, hv⟩
  unfold Oper.wp execOp
  simp [ho, resolve, invoke, builtin, hs, hx, hrun, Result.andThen]
  refine hK _ _ (h A' c' w' (M.swap hi ((Chg.refl _ w).grown h3 (fun k hk => .inl hk)) (fun g hg => hg) h2 fun g hg => ?_))
  rcases h5 with q | q
  · exact .inl (by show (Value.slice A0 n0 c0).ownBlock = some g; rw [← q]; exact hg)
  · right
    have hg' : (Value.slice A' (n0 + m) c').ownBlock = some g := hg
    rw [q] at hg'
    injection hg' with hg'
    omega

/-- What the first j entries whose stamp is s put over now. -/
noncomputable def ovAll (l : List Wrote) (s : Int) (now : List Int) : Nat → List Int
  | 0 => now
  | j + 1 => match l[j]? with
    | some y => if dec (y.stamp_ = s) = true then overlayOf (ovAll l s now j) y.puts_ else ovAll l s now j
    | none => ovAll l s now j
theorem ovAll_yes {l : List Wrote} {s : Int} {now : List Int} {j : Nat} {y : Wrote} (hy : l[j]? = some y) (h : y.stamp_ = s) : ovAll l s now (j + 1) = overlayOf (ovAll l s now j) y.puts_ := by
  rw [ovAll, hy]; simp only; rw [dec_yes h]; rfl
theorem ovAll_no {l : List Wrote} {s : Int} {now : List Int} {j : Nat} {y : Wrote} (hy : l[j]? = some y) (h : ¬ y.stamp_ = s) : ovAll l s now (j + 1) = ovAll l s now j := by
  rw [ovAll, hy]; simp only; rw [dec_no h]; rfl
theorem ovAll_le {l : List Wrote} {s : Int} {now : List Int} (h : now.length ≤ 8) : ∀ j, (ovAll l s now j).length ≤ 8
  | 0 => h
  | j + 1 => by
    have ih := ovAll_le (l := l) (s := s) h j
    rw [ovAll]
    cases l[j]? with
    | none => exact ih
    | some y =>
      simp only
      split
      · exact overlay_le _ _
      · exact ih
noncomputable def stTo (l : List Wrote) (S cells : List Int) : Nat → List Int
  | 0 => cells
  | i + 1 => match S[i]? with
    | some s => ovAll l s (stTo l S cells i) l.length
    | none => stTo l S cells i
theorem stTo_next {l : List Wrote} {S cells : List Int} {i : Nat} {s : Int} (h : S[i]? = some s) : stTo l S cells (i + 1) = ovAll l s (stTo l S cells i) l.length := by rw [stTo, h]
theorem stTo_le {l : List Wrote} {S cells : List Int} (h : cells.length ≤ 8) : ∀ i, (stTo l S cells i).length ≤ 8
  | 0 => h
  | i + 1 => by
    have ih := stTo_le (l := l) (S := S) h i
    rw [stTo]
    cases S[i]? with
    | none => exact ih
    | some s => exact ovAll_le ih _
def cntLe (S : List Int) (N : Int) : Nat := (S.takeWhile fun s => decide (s ≤ N)).length
theorem cnt_is : ∀ {S : List Int} {N : Int} {i : Nat}, (∀ (q : Nat) (s : Int), q < i → S[q]? = some s → s ≤ N) → i ≤ S.length → (∀ s, S[i]? = some s → ¬ s ≤ N) → cntLe S N = i
  | [], N, i, _, hi, _ => by simp at hi; subst hi; rfl
  | x :: S, N, 0, _, _, h => by
    have := h x rfl
    unfold cntLe
    rw [List.takeWhile_cons]
    simp [this]
  | x :: S, N, i + 1, h0, hi, h => by
    have hx := h0 0 x (Nat.succ_pos _) rfl
    have ih := cnt_is (S := S) (N := N) (i := i) (fun q s hq hs => h0 (q + 1) s (by omega) hs) (by simpa using hi) (fun s hs => h s hs)
    unfold cntLe at ih ⊢
    rw [List.takeWhile_cons]
    simp [hx, ih]
noncomputable def stateOf (cells : List Int) (l : List Wrote) (N : Int) : List Int := if dec (valsOk cells = true ∧ histOk l = true) = true then stTo l (stampsOf l) cells (cntLe (stampsOf l) N) else []
theorem state_no {cells : List Int} {l : List Wrote} {N : Int} (h : ¬ (valsOk cells = true ∧ histOk l = true)) : stateOf cells l N = [] := by unfold stateOf; rw [dec_no h]; rfl
theorem state_yes {cells : List Int} {l : List Wrote} {N : Int} (h : valsOk cells = true ∧ histOk l = true) : stateOf cells l N = stTo l (stampsOf l) cells (cntLe (stampsOf l) N) := by unfold stateOf; rw [dec_yes h]; rfl
theorem vals_len {l : List Int} (h : valsOk l = true) : l.length ≤ 8 := by
  have := (dec_true h).1
  omega
theorem stamps_len {l : List Wrote} (h : histOk l = true) : (stampsOf l).length ≤ 200 := by
  unfold stampsOf
  rw [h, if_pos rfl, sorted_len]
  exact (dec_true h).1

set_option maxRecDepth 4000 in
set_option maxHeartbeats 8000000 in
theorem spec_StateAt (A0 : Option Addr) (n0 c0 : Nat) (cells : List Int) (A : Option Addr) (n c : Nat) (l : List Wrote) (N : Int) (w : World) (S0 S : Nat → Prop) (hs0 : Sl w S0 1 A0 n0 (ints cells)) (hm0 : n0 ≤ 1048576) (hs : SlR Wrote.R 3 w S A n l) (hm : n ≤ 1048576) (hp : ∀ x ∈ l, x.puts_.length ≤ 1048576) :
    Calls Tryz.prog 23 #[.slice A0 n0 c0, .slice A n c, .int .i64 N] w fun e w' => ∃ B m d, e = .returned (.slice B m d) ∧ w'.ownsRow w.heap.size 3 1 (.slice B m d) m (ints (stateOf cells l N)) ∧ Ext w w' := by
  have H : Hid (l.length = n) := hs.1
  have HS0 := Lib.hid hs0
  have HS := Lib.hid hs
  have HP := Lib.hid hp
  clear hs hs0 hp
  have M : Hid (Mine w w []) := Mine.refl w
  cases hv : valsOk cells
  · have HN : Hid (stateOf cells l N = []) := state_no fun h => by rw [hv] at h; exact absurd h.1 (by simp)
    go_enter Tryz.func23, Tryz.ntmps23
    go_wp2_with (go_at_call 51; (with_reducible refine (l3Vals_any _ _ _ cells _ S0 (HS0.out.ext M.out.ext) hm0).mono ?_); rintro e w2 ⟨rfl, rfl⟩; rw [hv])
    go_ret
    have M9 := M.out.own (own_emptySt _) ((Ext.refl' _).al _)
    rw [HN.out]
    exact ⟨_, 0, 0, rfl, M9.row_at 0 rfl, M9.ext⟩
  cases hok : histOk l
  · have HN : Hid (stateOf cells l N = []) := state_no fun h => by rw [hok] at h; exact absurd h.2 (by simp)
    go_enter Tryz.func23, Tryz.ntmps23
    go_wp2_with (first | (go_at_call 51; (with_reducible refine (l3Vals_any _ _ _ cells _ S0 (HS0.out.ext M.out.ext) hm0).mono ?_); rintro e w2 ⟨rfl, rfl⟩; rw [hv]) | (go_at_call 21; (with_reducible refine (spec_HistOk A n c l _ S (HS.out.ext Wrote.R_good M.out.ext) hm HP.out).mono ?_); rintro e w2 ⟨rfl, x9⟩; rw [hok]; replace M := Lib.hid (M.out.on x9); clear x9))
    go_ret
    have M9 := M.out.own (own_emptySt _) ((Ext.refl' _).al _)
    rw [HN.out]
    exact ⟨_, 0, 0, rfl, M9.row_at 0 rfl, M9.ext⟩
  have HV := Lib.hid hv
  have HOK := Lib.hid hok
  have HC8 := Lib.hid (vals_len hv)
  have hl200 : Hid ((stampsOf l).length ≤ 200) := stamps_len hok
  go_enter Tryz.func23, Tryz.ntmps23
  go_wp2_with (first | (go_at_call 51; (with_reducible refine (l3Vals_any _ _ _ cells _ S0 (HS0.out.ext M.out.ext) hm0).mono ?_); rintro e w2 ⟨rfl, rfl⟩; rw [hv]) | (go_at_call 21; (with_reducible refine (spec_HistOk A n c l _ S (HS.out.ext Wrote.R_good M.out.ext) hm HP.out).mono ?_); rintro e w2 ⟨rfl, x9⟩; rw [hok]; replace M := Lib.hid (M.out.on x9); clear x9) | (at_builtin; refine Mine.wp_pour (M.out.own (own_emptySt _) ((Ext.refl' _).al _)) rfl _ _ 22 rfl 3 _ _ _ Tryz.underlying22 Tryz.infoInt rfl (by omega) 0 rfl rfl S0 A0 n0 c0 (ints cells) rfl (HS0.out.ext (M.out.ext.tr ((Ext.refl' _).al _))) (ints_one _) (by omega) (by unfold maxLen; omega) ?_; intro A2 c2 w' M'; (try simp only [Act.put, List.setIfInBounds_toArray, List.set_cons_zero, List.set_cons_succ, List.drop_succ_cons, List.drop_zero, List.take_succ_cons, List.take_zero, putAt, ints_set, ints_push, List.getElem_toArray, List.getElem_cons_zero, List.getElem_cons_succ, List.nil_append, Nat.zero_add, show ints [] = [] from rfl] at M'); replace M := Lib.hid M'; clear M'; (try simp only [Nat.zero_add])))
  clear hv hok
  refine (spec_Stamps A n c l _ S (HS.out.ext Wrote.R_good M.out.ext) hm HP.out).mono ?_
  rintro e w3 ⟨B3, ms, d3, rfl, o3, x3⟩
  replace M := Lib.hid (M.out.own o3 x3)
  clear o3 x3
  have HMS : Hid ((stampsOf l).length = ms) := by have h := M.out.len1 0 rfl; rw [ints_length] at h; exact h
  have hms : (ms : Int) ≤ 1048576 := by have := HMS.out; have := hl200.out; omega
  have HSO := Lib.hid (state_yes (N := N) ⟨HV.out, HOK.out⟩)
  generalize stampsOf l = SS at M HMS HSO
  clear hl200
  go_wp2
  go_loopw [7, 9] (fun u ii wr => ∃ (i m d : Nat) (B : Option Addr), i ≤ ms ∧ u = .slice B m d ∧ ii = .int .i64 i ∧ Hid (∀ (q : Nat) (s : Int), q < i → SS[q]? = some s → s ≤ N) ∧ Hid (Mine w wr [.row 3 1 B3 ms d3 (ints SS), .row 3 1 B m d (ints (stTo l SS cells i))])) (fun _ ii _ => ms - (intOf ii).toNat)
  case atStart => exact ⟨0, _, _, _, Nat.zero_le _, rfl, rfl, fun _ _ h => absurd h (Nat.not_lt_zero _), M⟩
  case round =>
    clear M
    obtain ⟨i, m, d, B, hi, rfl, rfl, HQ, M⟩ := hrel
    by_cases hlt : (i : Int) < (ms : Int)
    rotate_left
    · obtain rfl : ms = i := by omega
      go_wp2
      go_ret
      rw [HSO.out, cnt_is HQ.out (by rw [HMS.out]; exact Nat.le_refl _) (fun s hs => by have := (List.getElem?_eq_some_iff.1 hs).1; have := HMS.out; omega)]
      exact ⟨_, _, _, rfl, M.out.row_at 1 rfl, M.out.ext⟩
    have HI : Hid (i < ms) := by show _ < _; omega
    obtain ⟨gs, rfl⟩ := M.out.addr 0 rfl (by have := HI.out; omega)
    obtain ⟨bo, oo, s, e9, hbo, hz, cz⟩ := (M.out.row_sl 0 rfl).int_at HI.out
    injection e9 with e9
    injection e9 with e8 e7
    subst e8 e7
    rw [Nat.zero_add] at cz
    have HZ := Lib.hid hz
    clear hz
    by_cases hle : s ≤ N
    rotate_left
    · have bl : decide (s ≤ N) = false := decide_eq_false hle
      have HLE := Lib.hid hle
      clear hle
      go_wp2
      go_ret
      rw [HSO.out, cnt_is HQ.out (by rw [HMS.out]; exact Nat.le_of_lt HI.out) (fun s2 hs => by rw [HZ.out] at hs; injection hs with hs; subst hs; first | exact HLE.out | exact Int.not_le.2 HLE.out)]
      exact ⟨_, _, _, rfl, M.out.row_at 1 rfl, M.out.ext⟩
    have bl : decide (s ≤ N) = true := decide_eq_true hle
    have HLE := Lib.hid hle
    clear hle
    go_wp2
    clear bl cz hbo
    go_loopw [7, 10] (fun u jj wr => ∃ (j m d : Nat) (B : Option Addr), j ≤ n ∧ u = .slice B m d ∧ jj = .int .i64 j ∧ Hid (Mine w wr [.row 3 1 (some ⟨gs, 0, none⟩) ms d3 (ints SS), .row 3 1 B m d (ints (ovAll l s (stTo l SS cells i) j))])) (fun _ jj _ => n - (intOf jj).toNat)
    case atStart => exact ⟨0, m, d, B, Nat.zero_le _, rfl, rfl, M⟩
    case round =>
      clear M
      obtain ⟨j, m, d, B, hj, rfl, rfl, M⟩ := hrel
      by_cases hjn : (j : Int) < (n : Int)
      rotate_left
      · have ej : j = l.length := by rw [H.out]; omega
        have M9 := M.out
        rw [ej, ← stTo_next HZ.out] at M9
        go_wp2
        go_roundw
        case rel =>
          refine ⟨i + 1, m, d, B, HI.out, rfl, by go_num, Lib.hid fun q s2 hq hs => ?_, M9⟩
          by_cases e : q = i
          · subst e; rw [HZ.out] at hs; injection hs with hs; subst hs; exact HLE.out
          · exact HQ.out q s2 (by omega) hs
        case measure => have := HI.out; simp [intOf]; omega
      have HJ : Hid (j < n) := by show _ < _; omega
      obtain ⟨bb, o, rfl⟩ := HS.out.addr (by omega)
      obtain ⟨y, A1, n1, c1, hy, hb, q0, _, q2, _, hsl, hl1⟩ := hist_at (HS.out.ext Wrote.R_good M.out.ext) HJ.out
      obtain ⟨bo, oo, s2, e9, hbo, hz, cz⟩ := (M.out.row_sl 0 rfl).int_at HI.out
      injection e9 with e9
      injection e9 with e8 e7
      subst e8 e7
      rw [Nat.zero_add] at cz
      rw [HZ.out] at hz
      injection hz with hz
      subst hz
      have HN1 : Hid (n1 ≤ 1048576) := by show _ ≤ _; rw [← hl1]; exact HP.out y (List.mem_of_getElem? hy)
      obtain ⟨y0, y1, y2⟩ := y
      simp only at q0
      have HY := Lib.hid hy
      have HSL := Lib.hid hsl
      simp only at HSL
      have hm8 : m ≤ 8 := by have h := M.out.len1 1 rfl; rw [ints_length] at h; have := ovAll_le (l := l) (s := s) (stTo_le (l := l) (S := SS) HC8.out i) j; omega
      clear hy hsl hl1
      by_cases hs0 : y0 = s
      · have bs : (y0 == s) = true := by simpa using hs0
        have HS1 := Lib.hid hs0
        clear hs0
        go_wp2
        go_quiet (fail)
        replace M := Lib.hid (M.out.drN nq)
        go_wp2_with fail
        refine (spec_Overlay B m d _ A1 n1 c1 y2 _ _ (M.out.row_sl 1 rfl) (by omega) S (HSL.out.ext ((Ext.refl' _).drN nq)) HN1.out).mono ?_
        rintro e w5 ⟨B5, m5, d5, rfl, o5, x5⟩
        rw [← ovAll_yes (now := stTo l SS cells i) HY.out HS1.out] at o5
        replace M := Lib.hid (((M.out.own o5 x5).perm (List.Perm.swap _ _ _)).sub (List.Sublist.cons_cons _ (List.Sublist.cons_cons _ (List.nil_sublist _))))
        clear o5 x5
        go_wp2
        go_roundw
        case rel => exact ⟨j + 1, m5, d5, B5, HJ.out, rfl, by go_num, M⟩
        case measure => have := HJ.out; simp [intOf]; omega
      have bs : (y0 == s) = false := by simpa using hs0
      have HS1 := Lib.hid hs0
      clear hs0
      go_wp2
      go_quiet (fail)
      replace M := Lib.hid (M.out.drN nq)
      go_wp2
      go_roundw
      case rel => exact ⟨j + 1, m, d, B, HJ.out, rfl, by go_num, Lib.hid (by rw [ovAll_no HY.out HS1.out]; exact M.out)⟩
      case measure => have := HJ.out; simp [intOf]; omega
end Go.Proofs.YtglplgbhhnmgbaaGreat
