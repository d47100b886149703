/- Overlay of the reference, at the vers seat. No condition but lengths. -/
import Derived.Test.YtnhkjgnfjphllaaVRows
import Derived.Test.YtnhkjgnfjphllaaVals
import Derived.Test.YtnhkjgnfjphllaaCopyInts
import Derived.Deep.RegionLaw
namespace Go.Proofs.Ytnhkjgnfjphllaa
open Go.RowKit Go.Deep

def setTo (l : List Int) (rs : List Row) (k : Nat) : List Int := (rs.take k).foldl (fun l r => l.set r.cell.toNat r.val) l
theorem setTo_succ {l : List Int} {rs : List Row} {k : Nat} {x : Row} (h : rs[k]? = some x) : setTo l rs (k + 1) = (setTo l rs k).set x.cell.toNat x.val := by
  unfold setTo
  rw [List.take_add_one, h]
  simp [List.foldl_append]
theorem setTo_len (l : List Int) (rs : List Row) (k : Nat) : (setTo l rs k).length = l.length := by
  unfold setTo
  generalize rs.take k = r
  induction r generalizing l with
  | nil => rfl
  | cons x r ih => rw [List.foldl_cons, ih]; simp
noncomputable def overlayOf (l : List Int) (rs : List Row) : List Int := if dec (valsOk l = true ∧ rowsOk rs = true) = true then setTo l rs rs.length else []
theorem overlay_le (l : List Int) (rs : List Row) : (overlayOf l rs).length ≤ 8 := by
  unfold overlayOf
  split
  · rename_i h
    rw [setTo_len, valsOk_len (dec_true h).1]
    omega
  · simp
theorem own_len1 {w : World} {b : Nat} {e : TypeId} {n : Nat} {v : Value} {xs : List Int} (h : w.ownsRow b e 1 v n (ints xs)) : xs.length = n := by have := own_len h; rwa [ints_length] at this
theorem ints_set (l : List Int) (k : Nat) (x : Int) : (ints l).set k (.int .i64 x) = ints (l.set k x) := by simp [ints, List.map_set]

set_option maxHeartbeats 4000000 in
theorem spec_Overlay (A0 : Option Addr) (n0 c0 : Nat) (l0 : List Int) (A1 : Option Addr) (n1 c1 : Nat) (l1 : List Row) (w : World) (S0 : Nat → Prop) (hs0 : Sl w S0 1 A0 n0 (ints l0)) (hm0 : n0 ≤ 1048576) (S1 : Nat → Prop) (hs1 : Sl w S1 2 A1 n1 (l1.flatMap Row.cells)) (hm1 : n1 ≤ 1048576) :
    Calls Try.prog 79 #[.slice A0 n0 c0, .slice A1 n1 c1] w fun e w' => ∃ B m d, e = .returned (.slice B m d) ∧ w'.ownsRow w.heap.size 3 1 (.slice B m d) m (ints (overlayOf l0 l1)) ∧ Ext w w' := by
  have H1 := Lib.hid (hs1.flen Row.cells_length (by omega))
  have H0 := Lib.hid hs0.len
  have HS0 := Lib.hid hs0
  have HS1 := Lib.hid hs1
  cases hv : valsOk l0
  · have HN : Hid (overlayOf l0 l1 = []) := by unfold overlayOf; rw [dec_no fun h => by rw [hv] at h; exact absurd h.1 (by simp)]; rfl
    go_enter Try.func79, Try.ntmps79
    go_wp2_with (first | (go_at_call 45; refine (l3Vals_any _ _ _ l0 _ S0 hs0 (by omega)).mono ?_; rintro e w' ⟨rfl, rfl⟩))
    clear hv hs0 hs1
    go_wp2
    go_ret
    exact ⟨_, _, _, rfl, by rw [HN.out]; exact own_emptyC w, (Ext.refl' _).al _⟩
  cases hr : rowsOk l1
  · have HN : Hid (overlayOf l0 l1 = []) := by unfold overlayOf; rw [dec_no fun h => by rw [hr] at h; exact absurd h.2 (by simp)]; rfl
    go_enter Try.func79, Try.ntmps79
    go_wp2_with (first | (go_at_call 45; refine (l3Vals_any _ _ _ l0 _ S0 hs0 (by omega)).mono ?_; rintro e w' ⟨rfl, rfl⟩))
    clear hv hs0
    go_wp2_with fail
    refine (spec_RowsOk _ _ _ l1 _ S1 hs1 hm1).mono ?_
    rintro e w1 ⟨rfl, x1⟩
    rw [hr]
    clear hr hs1
    have X1 := Lib.hid x1
    have z1 : w.heap.size ≤ w1.heap.size := x1.size
    clear x1
    go_wp2
    go_ret
    exact ⟨_, _, _, rfl, by rw [HN.out]; exact own_base (own_emptyC w1) z1, X1.out.al _⟩
  have HY : Hid (overlayOf l0 l1 = setTo l0 l1 l1.length) := by unfold overlayOf; rw [dec_yes ⟨hv, hr⟩]; rfl
  have H8 := Lib.hid (valsOk_len hv)
  have HRW := Lib.hid (dec_true hr).2
  go_enter Try.func79, Try.ntmps79
  go_wp2_with (first | (go_at_call 45; refine (l3Vals_any _ _ _ l0 _ S0 hs0 (by omega)).mono ?_; rintro e w' ⟨rfl, rfl⟩))
  clear hv hs0
  go_wp2_with fail
  refine (spec_RowsOk _ _ _ l1 _ S1 hs1 hm1).mono ?_
  rintro e w1 ⟨rfl, x1⟩
  rw [hr]
  clear hr hs1
  have X1 := Lib.hid x1
  have z1 : w.heap.size ≤ w1.heap.size := x1.size
  clear x1
  go_wp2_with (at_builtin; refine wp_pour rfl _ _ _ rfl w1.heap.size 3 _ _ _ Try.underlying22 Try.infoInt rfl (by omega) (.slice (some ⟨w1.heap.size, 0, none⟩) 0 0) 0 (ints []) rfl (own_emptyC w1) S0 A0 n0 c0 (ints l0) rfl ((HS0.out.ext X1.out).ext ((Ext.refl' w1).al _)) (ints_one l0) (by omega) (by unfold maxLen; omega) (by simp) ?_; intro B d w2 hown hchg hat)
  have own2 : w2.ownsRow w1.heap.size 3 1 (.slice B n0 d) n0 (ints l0) := by simpa [ints] using hown
  have X2 := Lib.hid (X1.out.tr (hchg.ext ((Ext.refl' w1).al _) (fun k hk => by simp [Value.ownBlock] at hk; omega)))
  clear hown hchg hat
  obtain rfl : n0 = 8 := by have h1 := H0.out; have h2 := H8.out; omega
  obtain ⟨g, rfl⟩ : ∃ g, B = some ⟨g, 0, none⟩ := by
    rcases own2.2 with ⟨_, h0⟩ | ⟨g, cap, cur, hv, _⟩
    · omega
    · injection hv with h1; exact ⟨g, h1⟩
  have hg := (own2.lt g rfl).1
  have O2 := Lib.hid (own_base (b' := w.heap.size) own2 (by omega))
  have hgb := Lib.hid hg
  clear own2 hg
  go_wp2
  go_loopw [6] (fun i wr => ∃ k : Nat, k ≤ n1 ∧ i = .int .i64 k ∧ wr.ownsRow w.heap.size 3 1 (.slice (some ⟨g, 0, none⟩) 8 d) 8 (ints (setTo l0 l1 k)) ∧ Ext w wr) (fun i _ => n1 - (intOf i).toNat)
  case atStart => exact ⟨0, Nat.zero_le _, rfl, O2.out, X2.out⟩
  case round =>
    obtain ⟨k, hk, rfl, ho, hx⟩ := hrel
    have HO := Lib.hid ho
    have HX := Lib.hid hx
    clear ho hx
    by_cases hlt : (k : Int) < (n1 : Int)
    rotate_left
    · have e : Hid (k = l1.length) := by have h := H1.out; show k = _; omega
      go_wp2
      go_ret
      exact ⟨_, _, _, rfl, by rw [HY.out, ← e.out]; exact HO.out, HX.out⟩
    obtain ⟨b, o, rfl⟩ := HS1.out.addr (by omega)
    obtain ⟨s, hsk, hblt, hc⟩ := (HS1.out.ext HX.out).flat_cell (k := k) Row.cells_length (by omega) (by omega)
    have hb0 := (HS1.out.flat_cell (k := k) Row.cells_length (by omega) (by omega)).choose_spec.2.1
    obtain ⟨g0, g1⟩ := s
    have k0 := hc 0 (by omega)
    have k1 := hc 1 (by omega)
    simp only [Row.cells, List.getElem?_cons_zero, List.getElem?_cons_succ, Nat.add_zero] at k0 k1
    have hok := HRW.out k (by have h := H1.out; omega) _ hsk
    obtain ⟨j, rfl⟩ : ∃ j : Nat, g0 = (j : Int) := ⟨g0.toNat, by have := hok.1.1; simp only at this; omega⟩
    have hj : j < 8 := by have := hok.1.2; simp only at this; omega
    have HSK := Lib.hid hsk
    obtain ⟨v, hv⟩ : ∃ v, wr.cell? ⟨g, j, none⟩ = some v := by
      rw [HO.out.cellAt j (by omega)]
      exact ⟨_, List.getElem?_eq_getElem (by rw [ints_length, own_len1 HO.out]; exact hj)⟩
    have hf := HO.out.frozenAt (g := g) j
    have hgl := (HO.out.lt g rfl).2
    have hbg : b ≠ g := by have := hgb.out; omega
    have hj1 : (j : Int) < 8 := by omega
    have hj0 : (0 : Int) ≤ (j : Int) := by omega
    have hb1 : (0 : Int) ≤ (k : Int) := by omega
    have HJ8 := Lib.hid hj
    have HK := Lib.hid hk
    have HLT : Hid (k < n1) := by show k < n1; omega
    clear hsk hc hok hj hb0 hk
    go_wp2
    go_region_law (fail)
    all_goals
      go_wp2
      go_roundw
      case rel =>
        exact ⟨k + 1, by have := HLT.out; omega, by go_num, by rw [setTo_succ HSK.out, ← ints_set]; exact HO.out.drew.stored j (.int .i64 g1) |>.1, (HX.out.dr).sc (p := ⟨g, j, none⟩) (by have := hgb.out; show w.heap.size ≤ g; omega) _⟩
      case measure => have := HLT.out; simp [intOf]; omega
  
end Go.Proofs.Ytnhkjgnfjphllaa
