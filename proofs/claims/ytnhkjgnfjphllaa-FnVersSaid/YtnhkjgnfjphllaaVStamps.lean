/- Stamps of the reference: the stamps of a history, ascending. No condition but the lengths. -/
import Derived.Test.YtnhkjgnfjphllaaVHistOk
import Derived.Test.YtnhkjgnfjphllaaVPutI
namespace Go.Proofs.Ytnhkjgnfjphllaa
open Go.RowKit Go.Deep
set_option linter.unusedSimpArgs false
set_option linter.unusedVariables false

def sorted (l : List Wrote) : List Int := (l.map (·.stamp_)).mergeSort fun a b => decide (a ≤ b)
noncomputable def stampsOf (l : List Wrote) : List Int := if histOk l = true then sorted l else []
theorem sorted_len (l : List Wrote) : (sorted l).length = l.length := by unfold sorted; rw [(List.mergeSort_perm _ _).length_eq, List.length_map]
theorem sorted_mem {l : List Wrote} {x : Int} : x ∈ sorted l ↔ ∃ (i : Nat) (y : Wrote), l[i]? = some y ∧ y.stamp_ = x := by
  unfold sorted
  rw [(List.mergeSort_perm _ _).mem_iff, List.mem_map]
  constructor
  · rintro ⟨y, hy, e⟩
    obtain ⟨i, hi⟩ := List.mem_iff_getElem?.1 hy
    exact ⟨i, y, hi, e⟩
  · rintro ⟨i, y, hy, e⟩
    exact ⟨y, List.mem_of_getElem? hy, e⟩
theorem hist_one {l : List Wrote} (h : histOk l = true) {i : Nat} {y : Wrote} (hy : l[i]? = some y) : hOne l i y := (dec_true h).2 i (List.getElem?_eq_some_iff.1 hy).1 y hy
theorem sorted_lt {l : List Wrote} (h : histOk l = true) {i j : Nat} {x y : Int} (hij : i < j) (hx : (sorted l)[i]? = some x) (hy : (sorted l)[j]? = some y) : x < y := by
  have hn : (l.map (·.stamp_)).Nodup := by
    rw [List.Nodup, List.pairwise_iff_getElem]
    intro a b ha hb hab
    simp only [List.length_map] at ha hb
    have := (hist_one h (List.getElem?_eq_getElem hb)).2.2.2 a _ hab (List.getElem?_eq_getElem ha)
    simpa using this
  have h1 : (sorted l).Nodup := (List.mergeSort_perm _ _).symm.nodup hn
  have h2 : (sorted l).Pairwise (fun a b => decide (a ≤ b) = true) := List.pairwise_mergeSort (fun a b c h1 h2 => by simp at *; omega) (fun a b => by simp; omega) _
  obtain ⟨ix, ex⟩ := List.getElem?_eq_some_iff.1 hx
  obtain ⟨iy, ey⟩ := List.getElem?_eq_some_iff.1 hy
  have h3 := List.pairwise_iff_getElem.1 h1 i j ix iy hij
  have h4 := List.pairwise_iff_getElem.1 h2 i j ix iy hij
  rw [ex, ey] at h3 h4
  have h5 : x ≤ y := by simpa using h4
  omega
theorem stamp_in {l : List Wrote} (h : histOk l = true) {x : Int} (hx : x ∈ sorted l) : 1 ≤ x ∧ x ≤ 1000000 := by
  obtain ⟨i, y, hy, rfl⟩ := sorted_mem.1 hx
  exact (hist_one h hy).1
/-- L is the last of the first k. -/
def lastIs (l : List Wrote) (k : Nat) (L : Int) : Prop := (k = 0 ∧ L = 0) ∨ (0 < k ∧ (sorted l)[k - 1]? = some L)
/-- The least stamp behind L among the first j. -/
def bestIs (l : List Wrote) (L : Int) (j : Nat) (b : Int) : Prop := (b = 1000001 ∨ ∃ (i : Nat) (y : Wrote), i < j ∧ l[i]? = some y ∧ y.stamp_ = b ∧ L < b) ∧ ∀ (i : Nat) (y : Wrote), i < j → l[i]? = some y → L < y.stamp_ → b ≤ y.stamp_
theorem best_next {l : List Wrote} (h : histOk l = true) {k : Nat} {L b : Int} (hk : k < l.length) (hL : lastIs l k L) (hb : bestIs l L l.length b) : (sorted l)[k]? = some b := by
  have hks : k < (sorted l).length := by rw [sorted_len]; exact hk
  have hx := List.getElem?_eq_getElem hks
  generalize (sorted l)[k] = x at hx
  have hxm : x ∈ sorted l := List.mem_of_getElem? hx
  have hLx : L < x := by
    rcases hL with ⟨_, rfl⟩ | ⟨h0, hl⟩
    · have := stamp_in h hxm; omega
    · exact sorted_lt h (by omega) hl hx
  obtain ⟨i, y, hy, hyx⟩ := sorted_mem.1 hxm
  have h1 := hb.2 i y (List.getElem?_eq_some_iff.1 hy).1 hy (by rw [hyx]; exact hLx)
  rw [hyx] at h1
  have hxi := stamp_in h hxm
  rcases hb.1 with e | ⟨i2, y2, _, hy2, e2, hLb⟩
  · omega
  · have hbm : b ∈ sorted l := sorted_mem.2 ⟨i2, y2, hy2, e2⟩
    obtain ⟨q, hq⟩ := List.mem_iff_getElem?.1 hbm
    by_cases hqk : q < k
    · exfalso
      rcases hL with ⟨h0, _⟩ | ⟨h0, hl⟩
      · omega
      · by_cases e : q = k - 1
        · subst e; rw [hl] at hq; injection hq with hq; omega
        · have := sorted_lt h (show q < k - 1 by omega) hq hl; omega
    · by_cases e : q = k
      · subst e; exact hq
      · have := sorted_lt h (show k < q by omega) hx hq; omega
theorem best_skip {l : List Wrote} {L b : Int} {j : Nat} {y : Wrote} (hb : bestIs l L j b) (hy : l[j]? = some y) (h : ¬ (L < y.stamp_ ∧ y.stamp_ < b)) : bestIs l L (j + 1) b := by
  refine ⟨?_, fun i z hi hz hL => ?_⟩
  · rcases hb.1 with e | ⟨i, z, hi, r⟩
    · exact .inl e
    · exact .inr ⟨i, z, by omega, r⟩
  · by_cases e : i = j
    · subst e; rw [hy] at hz; injection hz with hz; subst hz; omega
    · exact hb.2 i z (by omega) hz hL
theorem best_take {l : List Wrote} {L b : Int} {j : Nat} {y : Wrote} (hb : bestIs l L j b) (hy : l[j]? = some y) (h : L < y.stamp_ ∧ y.stamp_ < b) : bestIs l L (j + 1) y.stamp_ := by
  refine ⟨.inr ⟨j, y, Nat.lt_succ_self j, hy, rfl, h.1⟩, fun i z hi hz hL => ?_⟩
  by_cases e : i = j
  · subst e; rw [hy] at hz; injection hz with hz; subst hz; omega
  · have := hb.2 i z (by omega) hz hL; omega
def lenSt : Value → Nat
  | .slice _ n _ => n
  | _ => 0
theorem own_emptySt (w : World) : (w.alloc (.cells #[] 3)).ownsRow w.heap.size 3 1 (.slice (some ⟨w.heap.size, 0, none⟩) 0 0) 0 (ints []) :=
  World.ownsRow_lit w #[] 0 (Nat.le_refl _) (Nat.zero_le _) (by simp [ints])

set_option maxRecDepth 4000 in
set_option maxHeartbeats 8000000 in
theorem spec_Stamps (A : Option Addr) (n c : Nat) (l : List Wrote) (w : World) (S : Nat → Prop) (hs : SlR Wrote.R 3 w S A n l) (hm : n ≤ 1048576) (hp : ∀ x ∈ l, x.puts_.length ≤ 1048576) :
    Calls Try.prog 41 #[.slice A n c] w fun e w' => ∃ B m d, e = .returned (.slice B m d) ∧ w'.ownsRow w.heap.size 3 1 (.slice B m d) m (ints (stampsOf l)) ∧ Ext w w' := by
  have H : Hid (l.length = n) := hs.1
  have HS := Lib.hid hs
  have HP := Lib.hid hp
  clear hs hp
  have M : Hid (Mine w w []) := Mine.refl w
  go_enter Try.func41, Try.ntmps41
  go_wp2_with fail
  replace M := Lib.hid (M.out.own (own_emptySt _) ((Ext.refl' _).al _))
  refine (spec_HistOk A n c l _ S (HS.out.ext Wrote.R_good M.out.ext) hm HP.out).mono ?_
  rintro e w1 ⟨rfl, x1⟩
  replace M := Lib.hid (M.out.on x1)
  clear x1
  cases hok : histOk l
  · have e0 : Hid (stampsOf l = []) := by show _ = _; unfold stampsOf; rw [hok]; rfl
    clear hok
    go_wp2
    go_ret
    rw [e0.out]
    exact ⟨_, _, _, rfl, M.out.row_at 0 rfl, M.out.ext⟩
  have e0 : Hid (stampsOf l = sorted l) := by show _ = _; unfold stampsOf; rw [hok]; rfl
  have HOK := Lib.hid hok
  have hn200 : (n : Int) ≤ 1048576 := by omega
  clear hok
  go_wp2
  go_loopw [3, 4] (fun u la wr => ∃ (k d : Nat) (B : Option Addr) (L : Int), k ≤ n ∧ u = .slice B k d ∧ la = .int .i64 L ∧ Hid (lastIs l k L) ∧ Hid (Mine w wr [.row 3 1 B k d (ints ((sorted l).take k))])) (fun u _ _ => n - lenSt u)
  case atStart => exact ⟨0, _, _, 0, Nat.zero_le _, rfl, rfl, .inl ⟨rfl, rfl⟩, M⟩
  case round =>
    clear M
    obtain ⟨k, d, B, L, hk, rfl, rfl, HL, M⟩ := hrel
    by_cases hlt : (k : Int) < (n : Int)
    rotate_left
    · obtain rfl : n = k := by omega
      go_wp2
      go_ret
      rw [e0.out]
      have h := M.out
      rw [List.take_of_length_le (by rw [sorted_len, H.out]; exact Nat.le_refl _)] at h
      exact ⟨_, _, _, rfl, h.row_at 0 rfl, h.ext⟩
    have HK : Hid (k < n) := by show _ < _; omega
    go_wp2
    go_loopw [5, 6] (fun be i wr => ∃ (j : Nat) (b : Int), j ≤ n ∧ be = .int .i64 b ∧ i = .int .i64 j ∧ Hid (bestIs l L j b) ∧ Hid (Mine w wr [.row 3 1 B k d (ints ((sorted l).take k))])) (fun _ i _ => n - (intOf i).toNat)
    case atStart => exact ⟨0, 1000001, Nat.zero_le _, rfl, rfl, ⟨.inl rfl, fun _ _ h => absurd h (Nat.not_lt_zero _)⟩, M⟩
    case round =>
      clear M
      obtain ⟨j, b, hj, rfl, rfl, HB, M⟩ := hrel
      by_cases hjn : (j : Int) < (n : Int)
      rotate_left
      · have hb := HB.out
        rw [show j = l.length by rw [H.out]; omega] at hb
        have hbk := best_next HOK.out (by rw [H.out]; exact HK.out) HL.out hb
        have HBK := Lib.hid hbk
        clear hb hbk
        go_wp2_with (first | (at_builtin; refine Mine.wp_push M.out rfl _ _ 22 rfl 3 _ _ _ Try.underlying22 Try.infoInt rfl (by omega) 0 rfl rfl _ _ rfl rfl rfl (by simp [Value.oneCell']) (by omega) (by unfold maxLen; omega) ?_; intro A2 c2 w' M'; (try simp only [Act.put, List.setIfInBounds_toArray, List.set_cons_zero, List.set_cons_succ, List.drop_succ_cons, List.drop_zero, List.take_succ_cons, List.take_zero, putAt, ints_set, ints_push, List.getElem_toArray, List.getElem_cons_zero, List.getElem_cons_succ] at M'); replace M := Lib.hid M'; clear M'))
        rw [show (sorted l).take k ++ [b] = (sorted l).take (k + 1) by rw [List.take_add_one, HBK.out]; rfl] at M
        go_roundw
        case rel => exact ⟨k + 1, _, _, b, HK.out, rfl, rfl, .inr ⟨Nat.succ_pos _, HBK.out⟩, M⟩
        case measure => have := HK.out; simp [lenSt]; omega
      have HJ : Hid (j < n) := by show _ < _; omega
      obtain ⟨bb, o, rfl⟩ := HS.out.addr (by omega)
      obtain ⟨y, _, _, _, hy, hb, q0, _, _, _, _, _⟩ := hist_at (HS.out.ext Wrote.R_good M.out.ext) HJ.out
      obtain ⟨y0, y1, y2⟩ := y
      simp only at q0
      have HY := Lib.hid hy
      clear hy
      by_cases h1 : L < y0
      rotate_left
      · have b1 : decide (L < y0) = false := decide_eq_false h1
        have HN := Lib.hid (best_skip HB.out HY.out (fun q => h1 q.1))
        clear h1
        go_wp2
        go_roundw
        case rel => exact ⟨j + 1, b, HJ.out, rfl, by go_num, HN, M⟩
        case measure => have := HJ.out; simp [intOf]; omega
      have b1 : decide (L < y0) = true := decide_eq_true h1
      by_cases h2 : y0 < b
      rotate_left
      · have b2 : decide (y0 < b) = false := decide_eq_false h2
        have HN := Lib.hid (best_skip HB.out HY.out (fun q => h2 q.2))
        clear h2
        go_wp2
        go_roundw
        case rel => exact ⟨j + 1, b, HJ.out, rfl, by go_num, HN, M⟩
        case measure => have := HJ.out; simp [intOf]; omega
      have b2 : decide (y0 < b) = true := decide_eq_true h2
      have HN := Lib.hid (best_take HB.out HY.out ⟨h1, h2⟩)
      go_wp2
      go_roundw
      case rel => exact ⟨j + 1, y0, HJ.out, rfl, by go_num, HN, M⟩
      case measure => have := HJ.out; simp [intOf]; omega
end Go.Proofs.Ytnhkjgnfjphllaa
