/- RowsOk of program and reference. No condition but the length. Overlay of program and reference. No condition but lengths. HistOk of the reference. No condition but the lengths. -/
import Derived.Test.YtglplgbhhnmgbaaGreatWFlat
import Derived.Test.YtglplgbhhnmgbaaGreatRange
import Derived.Test.YtglplgbhhnmgbaaGreatVals
import Derived.Test.YtglplgbhhnmgbaaGreatCopyI
import Derived.Deep.RegionLaw
import Derived.Test.YtglplgbhhnmgbaaGreatWWorld
import Derived.Test.YtglplgbhhnmgbaaGreatIn
namespace Go.Proofs.YtglplgbhhnmgbaaGreat
open Go.RowKit Go.Deep

def Row.ok (_ : Nat) (a : Row) : Prop := (0 ≤ a.cell_ ∧ a.cell_ ≤ 7) ∧ (0 ≤ a.val_ ∧ a.val_ ≤ 65535)
noncomputable def rowsOk (l : List Row) : Bool := dec (l.length ≤ 300 ∧ AllTo Row.ok l l.length)


set_option maxHeartbeats 4000000 in
theorem spec_RowsOk (A : Option Addr) (n c : Nat) (l : List Row) (w : World) (S : Nat → Prop) (hs : Sl w S 2 A n (l.flatMap Row.cells)) (hm : n ≤ 1048576) :
    Calls Tryz.prog 22 #[.slice A n c] w fun e w' => e = .returned (.bool (rowsOk l)) ∧ Ext w w' := by
  have H := Lib.hid (hs.flen Row.cells_length (by omega))
  by_cases h60 : n ≤ 300
  rotate_left
  · go_enter Tryz.func22, Tryz.ntmps22
    go_wp2
    go_ret
    exact ⟨by rw [rowsOk, dec_no fun h => h60 (by rw [← H.out]; exact h.1)]; rfl, Ext.refl' _⟩
  go_enter Tryz.func22, Tryz.ntmps22
  go_wp2
  go_loopw [3] (fun i wr => ∃ k : Nat, k ≤ n ∧ i = .int .i64 k ∧ AllTo Row.ok l k ∧ Ext w wr) (fun i _ => n - (intOf i).toNat)
  case atStart => exact ⟨0, Nat.zero_le _, rfl, AllTo.zero _ _, Ext.refl' _⟩
  case round =>
    obtain ⟨k, hk, rfl, hup, hxx⟩ := hrel
    by_cases hlt : k < n
    · obtain ⟨b, o, s, rfl, hb, hx, hc⟩ := (hs.ext hxx).flat_at Row.cells_length (by omega) hlt
      obtain ⟨f0, f1⟩ := s
      have c0 := hc 0 (by omega)
      have c1 := hc 1 (by omega)
      simp only [Row.cells, List.getElem?_cons_zero, List.getElem?_cons_succ, Nat.add_zero] at c0 c1
      have HX := Lib.hid hx
      have HU := Lib.hid hup
      have HE := Lib.hid hxx
      clear hx hup hc hxx
      by_cases h0 : 0 ≤ f0 ∧ f0 ≤ 7
      rotate_left
      · have d0 : decide (0 ≤ f0 ∧ f0 ≤ 7) = false := by simpa using h0
        go_wp2_with (first | (go_at_call 54; refine (l3Cell_any _ _).mono ?_; rintro e w' ⟨rfl, rfl⟩) | (go_at_call 52; refine (l3Val_any _ _).mono ?_; rintro e w' ⟨rfl, rfl⟩))
        go_ret
        exact ⟨by rw [rowsOk, dec_no fun h => AllTo.not HX.out (by rw [H.out]; exact hlt) (fun q => h0 q.1) h.2]; rfl, by first | exact HE.out | exact HE.out.al _⟩
      have d0 : decide (0 ≤ f0 ∧ f0 ≤ 7) = true := by simpa using h0
      by_cases h1 : 0 ≤ f1 ∧ f1 ≤ 65535
      rotate_left
      · have d1 : decide (0 ≤ f1 ∧ f1 ≤ 65535) = false := by simpa using h1
        go_wp2_with (first | (go_at_call 54; refine (l3Cell_any _ _).mono ?_; rintro e w' ⟨rfl, rfl⟩) | (go_at_call 52; refine (l3Val_any _ _).mono ?_; rintro e w' ⟨rfl, rfl⟩))
        go_ret
        exact ⟨by rw [rowsOk, dec_no fun h => AllTo.not HX.out (by rw [H.out]; exact hlt) (fun q => h1 q.2) h.2]; rfl, by first | exact HE.out | exact HE.out.al _⟩
      have d1 : decide (0 ≤ f1 ∧ f1 ≤ 65535) = true := by simpa using h1
      go_wp2_with (first | (go_at_call 54; refine (l3Cell_any _ _).mono ?_; rintro e w' ⟨rfl, rfl⟩) | (go_at_call 52; refine (l3Val_any _ _).mono ?_; rintro e w' ⟨rfl, rfl⟩))
      go_roundw
      case rel => exact ⟨k + 1, by omega, by go_num, HU.out.succ HX.out ⟨h0, h1⟩, by first | exact HE.out | exact HE.out.al _⟩
      case measure => simp [intOf]; omega
    · go_wp2
      go_ret
      have e : k = l.length := by rw [H.out]; omega
      exact ⟨by rw [rowsOk, dec_yes ⟨by rw [H.out]; exact h60, by rw [← e]; exact hup⟩]; rfl, hxx⟩

set_option maxHeartbeats 4000000 in
theorem impl_RowsOk (A : Option Addr) (n c : Nat) (l : List Row) (w : World) (S : Nat → Prop) (hs : Sl w S 2 A n (l.flatMap Row.cells)) (hm : n ≤ 1048576) :
    Calls Tryz.prog 35 #[.slice A n c] w fun e w' => e = .returned (.bool (rowsOk l)) ∧ Ext w w' := by
  have H := Lib.hid (hs.flen Row.cells_length (by omega))
  go_enter Tryz.func35, Tryz.ntmps35
  go_wp2
  go_loopw [7] (fun i wr => ∃ k : Nat, k ≤ n ∧ i = .int .i64 k ∧ AllTo Row.ok l k ∧ Ext w wr) (fun i _ => n - (intOf i).toNat)
  case atStart => exact ⟨0, Nat.zero_le _, rfl, AllTo.zero _ _, Ext.refl' _⟩
  case round =>
    obtain ⟨k, hk, rfl, hup, hxx⟩ := hrel
    by_cases hlt : k < n
    · obtain ⟨b, o, s, rfl, hb, hx, hc⟩ := (hs.ext hxx).flat_at Row.cells_length (by omega) hlt
      obtain ⟨f0, f1⟩ := s
      have c0 := hc 0 (by omega)
      have c1 := hc 1 (by omega)
      simp only [Row.cells, List.getElem?_cons_zero, List.getElem?_cons_succ, Nat.add_zero] at c0 c1
      have HX := Lib.hid hx
      have HU := Lib.hid hup
      have HE := Lib.hid hxx
      clear hx hup hc hxx
      by_cases h0 : 0 ≤ f0 ∧ f0 ≤ 7
      rotate_left
      · have d0 : decide (0 ≤ f0 ∧ f0 ≤ 7) = false := by simpa using h0
        go_wp2_with (first | (go_at_call 72; refine (isCell_any _ _).mono ?_; rintro e w' ⟨rfl, rfl⟩) | (go_at_call 67; refine (isValue_any _ _).mono ?_; rintro e w' ⟨rfl, rfl⟩))
        go_ret
        exact ⟨by rw [rowsOk, dec_no fun h => AllTo.not HX.out (by rw [H.out]; exact hlt) (fun q => h0 q.1) h.2]; rfl, by first | exact HE.out | exact HE.out.al _⟩
      have d0 : decide (0 ≤ f0 ∧ f0 ≤ 7) = true := by simpa using h0
      by_cases h1 : 0 ≤ f1 ∧ f1 ≤ 65535
      rotate_left
      · have d1 : decide (0 ≤ f1 ∧ f1 ≤ 65535) = false := by simpa using h1
        go_wp2_with (first | (go_at_call 72; refine (isCell_any _ _).mono ?_; rintro e w' ⟨rfl, rfl⟩) | (go_at_call 67; refine (isValue_any _ _).mono ?_; rintro e w' ⟨rfl, rfl⟩))
        go_ret
        exact ⟨by rw [rowsOk, dec_no fun h => AllTo.not HX.out (by rw [H.out]; exact hlt) (fun q => h1 q.2) h.2]; rfl, by first | exact HE.out | exact HE.out.al _⟩
      have d1 : decide (0 ≤ f1 ∧ f1 ≤ 65535) = true := by simpa using h1
      go_wp2_with (first | (go_at_call 72; refine (isCell_any _ _).mono ?_; rintro e w' ⟨rfl, rfl⟩) | (go_at_call 67; refine (isValue_any _ _).mono ?_; rintro e w' ⟨rfl, rfl⟩))
      go_roundw
      case rel => exact ⟨k + 1, by omega, by go_num, HU.out.succ HX.out ⟨h0, h1⟩, by first | exact HE.out | exact HE.out.al _⟩
      case measure => simp [intOf]; omega
    · have e : k = n := by omega
      have HU : AllTo Row.ok l l.length := by rw [H.out, ← e]; exact hup
      have HE := Lib.hid hxx
      clear e hup hxx
      by_cases h60 : n ≤ 300
      · have h60' : (n : Int) ≤ 300 := by omega
        go_wp2
        go_ret
        exact ⟨by rw [rowsOk, dec_yes ⟨by rw [H.out]; exact h60, HU⟩]; simp, HE.out⟩
      · have h60' : ¬ (n : Int) ≤ 300 := by omega
        go_wp2
        go_ret
        exact ⟨by rw [rowsOk, dec_no fun h => h60 (by rw [← H.out]; exact h.1)]; simp, HE.out⟩

end Go.Proofs.YtglplgbhhnmgbaaGreat

namespace Go.Proofs.YtglplgbhhnmgbaaGreat
open Go.RowKit Go.Deep

def setTo (l : List Int) (rs : List Row) (k : Nat) : List Int := (rs.take k).foldl (fun l r => l.set r.cell_.toNat r.val_) l
theorem setTo_succ {l : List Int} {rs : List Row} {k : Nat} {x : Row} (h : rs[k]? = some x) : setTo l rs (k + 1) = (setTo l rs k).set x.cell_.toNat x.val_ := by
  unfold setTo
  rw [List.take_add_one, h]
  simp [List.foldl_append]
theorem setTo_len (l : List Int) (rs : List Row) (k : Nat) : (setTo l rs k).length = l.length := by
  unfold setTo
  generalize rs.take k = r
  induction r generalizing l with
  | nil => rfl
  | cons x r ih => rw [List.foldl_cons, ih]; simp
noncomputable def overlayOf (l : List Int) (rs : List Row) : List Int := if dec (valsOk l = true ∧ rowsOk rs = true) = true then setTo l rs rs.length else []
theorem overlay_le (l : List Int) (rs : List Row) : (overlayOf l rs).length ≤ 8 := by
  unfold overlayOf
  split
  · rename_i h
    rw [setTo_len, valsOk_len (dec_true h).1]
    omega
  · simp
theorem own_len1 {w : World} {b : Nat} {e : TypeId} {n : Nat} {v : Value} {xs : List Int} (h : w.ownsRow b e 1 v n (ints xs)) : xs.length = n := by have := own_len h; rwa [ints_length] at this
theorem ints_set (l : List Int) (k : Nat) (x : Int) : (ints l).set k (.int .i64 x) = ints (l.set k x) := by simp [ints, List.map_set]

set_option maxHeartbeats 4000000 in
theorem impl_Overlay (A0 : Option Addr) (n0 c0 : Nat) (l0 : List Int) (A1 : Option Addr) (n1 c1 : Nat) (l1 : List Row) (w : World) (S0 : Nat → Prop) (hs0 : Sl w S0 1 A0 n0 (ints l0)) (hm0 : n0 ≤ 1048576) (S1 : Nat → Prop) (hs1 : Sl w S1 2 A1 n1 (l1.flatMap Row.cells)) (hm1 : n1 ≤ 1048576) :
    Calls Tryz.prog 77 #[.slice A0 n0 c0, .slice A1 n1 c1] w fun e w' => ∃ B m d, e = .returned (.slice B m d) ∧ w'.ownsRow w.heap.size 3 1 (.slice B m d) m (ints (overlayOf l0 l1)) ∧ Ext w w' := by
  have H1 := Lib.hid (hs1.flen Row.cells_length (by omega))
  have H0 := Lib.hid hs0.len
  have HS0 := Lib.hid hs0
  have HS1 := Lib.hid hs1
  cases hv : valsOk l0
  · have HN : Hid (overlayOf l0 l1 = []) := by unfold overlayOf; rw [dec_no fun h => by rw [hv] at h; exact absurd h.1 (by simp)]; rfl
    go_enter Tryz.func77, Tryz.ntmps77
    go_wp2_with (first | (go_at_call 65; refine (areValues_any _ _ _ l0 _ S0 hs0 (by omega)).mono ?_; rintro e w' ⟨rfl, rfl⟩))
    clear hv hs0 hs1
    go_wp2
    go_ret
    exact ⟨_, _, _, rfl, by rw [HN.out]; exact World.ownsRow_nil _ _ _ _, Ext.refl' _⟩
  cases hr : rowsOk l1
  · have HN : Hid (overlayOf l0 l1 = []) := by unfold overlayOf; rw [dec_no fun h => by rw [hr] at h; exact absurd h.2 (by simp)]; rfl
    go_enter Tryz.func77, Tryz.ntmps77
    go_wp2_with (first | (go_at_call 65; refine (areValues_any _ _ _ l0 _ S0 hs0 (by omega)).mono ?_; rintro e w' ⟨rfl, rfl⟩))
    clear hv hs0
    go_wp2_with fail
    refine (impl_RowsOk _ _ _ l1 _ S1 hs1 hm1).mono ?_
    rintro e w1 ⟨rfl, x1⟩
    rw [hr]
    clear hr hs1
    have X1 := Lib.hid x1
    have z1 : w.heap.size ≤ w1.heap.size := x1.size
    clear x1
    go_wp2
    go_ret
    exact ⟨_, _, _, rfl, by rw [HN.out]; exact World.ownsRow_nil _ _ _ _, X1.out⟩
  have HY : Hid (overlayOf l0 l1 = setTo l0 l1 l1.length) := by unfold overlayOf; rw [dec_yes ⟨hv, hr⟩]; rfl
  have H8 := Lib.hid (valsOk_len hv)
  have HRW := Lib.hid (dec_true hr).2
  go_enter Tryz.func77, Tryz.ntmps77
  go_wp2_with (first | (go_at_call 65; refine (areValues_any _ _ _ l0 _ S0 hs0 (by omega)).mono ?_; rintro e w' ⟨rfl, rfl⟩))
  clear hv hs0
  go_wp2_with fail
  refine (impl_RowsOk _ _ _ l1 _ S1 hs1 hm1).mono ?_
  rintro e w1 ⟨rfl, x1⟩
  rw [hr]
  clear hr hs1
  have X1 := Lib.hid x1
  have z1 : w.heap.size ≤ w1.heap.size := x1.size
  clear x1
  go_wp2_with fail
  refine (copyInts_any _ _ _ l0 _ S0 (HS0.out.ext X1.out) hm0).mono ?_
  rintro e w2 ⟨B, d, rfl, own2, x2⟩
  have X2 := Lib.hid (X1.out.tr x2)
  clear x2
  obtain rfl : n0 = 8 := by have h1 := H0.out; have h2 := H8.out; omega
  obtain ⟨g, rfl⟩ : ∃ g, B = some ⟨g, 0, none⟩ := by
    rcases own2.2 with ⟨_, h0⟩ | ⟨g, cap, cur, hv, _⟩
    · omega
    · injection hv with h1; exact ⟨g, h1⟩
  have hg := (own2.lt g rfl).1
  have O2 := Lib.hid (own_base (b' := w.heap.size) own2 (by omega))
  have hgb := Lib.hid hg
  clear own2 hg
  go_wp2
  go_loopw [20] (fun i wr => ∃ k : Nat, k ≤ n1 ∧ i = .int .i64 k ∧ wr.ownsRow w.heap.size 3 1 (.slice (some ⟨g, 0, none⟩) 8 d) 8 (ints (setTo l0 l1 k)) ∧ Ext w wr) (fun i _ => n1 - (intOf i).toNat)
  case atStart => exact ⟨0, Nat.zero_le _, rfl, O2.out, X2.out⟩
  case round =>
    obtain ⟨k, hk, rfl, ho, hx⟩ := hrel
    have HO := Lib.hid ho
    have HX := Lib.hid hx
    clear ho hx
    by_cases hlt : (k : Int) < (n1 : Int)
    rotate_left
    · have e : Hid (k = l1.length) := by have h := H1.out; show k = _; omega
      go_wp2
      go_ret
      exact ⟨_, _, _, rfl, by rw [HY.out, ← e.out]; exact HO.out, HX.out⟩
    obtain ⟨b, o, rfl⟩ := HS1.out.addr (by omega)
    obtain ⟨s, hsk, hblt, hc⟩ := (HS1.out.ext HX.out).flat_cell (k := k) Row.cells_length (by omega) (by omega)
    have hb0 := (HS1.out.flat_cell (k := k) Row.cells_length (by omega) (by omega)).choose_spec.2.1
    obtain ⟨g0, g1⟩ := s
    have k0 := hc 0 (by omega)
    have k1 := hc 1 (by omega)
    simp only [Row.cells, List.getElem?_cons_zero, List.getElem?_cons_succ, Nat.add_zero] at k0 k1
    have hok := HRW.out k (by have h := H1.out; omega) _ hsk
    obtain ⟨j, rfl⟩ : ∃ j : Nat, g0 = (j : Int) := ⟨g0.toNat, by have := hok.1.1; simp only at this; omega⟩
    have hj : j < 8 := by have := hok.1.2; simp only at this; omega
    have HSK := Lib.hid hsk
    obtain ⟨v, hv⟩ : ∃ v, wr.cell? ⟨g, j, none⟩ = some v := by
      rw [HO.out.cellAt j (by omega)]
      exact ⟨_, List.getElem?_eq_getElem (by rw [ints_length, own_len1 HO.out]; exact hj)⟩
    have hf := HO.out.frozenAt (g := g) j
    have hgl := (HO.out.lt g rfl).2
    have hbg : b ≠ g := by have := hgb.out; omega
    have hj1 : (j : Int) < 8 := by omega
    have hj0 : (0 : Int) ≤ (j : Int) := by omega
    have hb1 : (0 : Int) ≤ (k : Int) := by omega
    have HJ8 := Lib.hid hj
    have HK := Lib.hid hk
    have HLT : Hid (k < n1) := by show k < n1; omega
    clear hsk hc hok hj hb0 hk
    go_wp2
    go_roundw
    case rel =>
      exact ⟨k + 1, by have := HLT.out; omega, by go_num, by rw [setTo_succ HSK.out, ← ints_set]; exact own_ext (HO.out.stored j (.int .i64 g1)).1 ((Ext.refl' _).al _), (HX.out.sc (p := ⟨g, j, none⟩) (by have := hgb.out; show w.heap.size ≤ g; omega) _).al _⟩
    case measure => have := HLT.out; simp [intOf]; omega
  

set_option maxHeartbeats 4000000 in
theorem spec_Overlay (A0 : Option Addr) (n0 c0 : Nat) (l0 : List Int) (A1 : Option Addr) (n1 c1 : Nat) (l1 : List Row) (w : World) (S0 : Nat → Prop) (hs0 : Sl w S0 1 A0 n0 (ints l0)) (hm0 : n0 ≤ 1048576) (S1 : Nat → Prop) (hs1 : Sl w S1 2 A1 n1 (l1.flatMap Row.cells)) (hm1 : n1 ≤ 1048576) :
    Calls Tryz.prog 56 #[.slice A0 n0 c0, .slice A1 n1 c1] w fun e w' => ∃ B m d, e = .returned (.slice B m d) ∧ w'.ownsRow w.heap.size 3 1 (.slice B m d) m (ints (overlayOf l0 l1)) ∧ Ext w w' := by
  have H1 := Lib.hid (hs1.flen Row.cells_length (by omega))
  have H0 := Lib.hid hs0.len
  have HS0 := Lib.hid hs0
  have HS1 := Lib.hid hs1
  cases hv : valsOk l0
  · have HN : Hid (overlayOf l0 l1 = []) := by unfold overlayOf; rw [dec_no fun h => by rw [hv] at h; exact absurd h.1 (by simp)]; rfl
    go_enter Tryz.func56, Tryz.ntmps56
    go_wp2_with (first | (go_at_call 51; refine (l3Vals_any _ _ _ l0 _ S0 hs0 (by omega)).mono ?_; rintro e w' ⟨rfl, rfl⟩))
    clear hv hs0 hs1
    go_wp2
    go_ret
    exact ⟨_, _, _, rfl, by rw [HN.out]; exact own_emptyC w, (Ext.refl' _).al _⟩
  cases hr : rowsOk l1
  · have HN : Hid (overlayOf l0 l1 = []) := by unfold overlayOf; rw [dec_no fun h => by rw [hr] at h; exact absurd h.2 (by simp)]; rfl
    go_enter Tryz.func56, Tryz.ntmps56
    go_wp2_with (first | (go_at_call 51; refine (l3Vals_any _ _ _ l0 _ S0 hs0 (by omega)).mono ?_; rintro e w' ⟨rfl, rfl⟩))
    clear hv hs0
    go_wp2_with fail
    refine (spec_RowsOk _ _ _ l1 _ S1 hs1 hm1).mono ?_
    rintro e w1 ⟨rfl, x1⟩
    rw [hr]
    clear hr hs1
    have X1 := Lib.hid x1
    have z1 : w.heap.size ≤ w1.heap.size := x1.size
    clear x1
    go_wp2
    go_ret
    exact ⟨_, _, _, rfl, by rw [HN.out]; exact own_base (own_emptyC w1) z1, X1.out.al _⟩
  have HY : Hid (overlayOf l0 l1 = setTo l0 l1 l1.length) := by unfold overlayOf; rw [dec_yes ⟨hv, hr⟩]; rfl
  have H8 := Lib.hid (valsOk_len hv)
  have HRW := Lib.hid (dec_true hr).2
  go_enter Tryz.func56, Tryz.ntmps56
  go_wp2_with (first | (go_at_call 51; refine (l3Vals_any _ _ _ l0 _ S0 hs0 (by omega)).mono ?_; rintro e w' ⟨rfl, rfl⟩))
  clear hv hs0
  go_wp2_with fail
  refine (spec_RowsOk _ _ _ l1 _ S1 hs1 hm1).mono ?_
  rintro e w1 ⟨rfl, x1⟩
  rw [hr]
  clear hr hs1
  have X1 := Lib.hid x1
  have z1 : w.heap.size ≤ w1.heap.size := x1.size
  clear x1
  go_wp2_with (at_builtin; refine wp_pour rfl _ _ _ rfl w1.heap.size 3 _ _ _ Tryz.underlying22 Tryz.infoInt rfl (by omega) (.slice (some ⟨w1.heap.size, 0, none⟩) 0 0) 0 (ints []) rfl (own_emptyC w1) S0 A0 n0 c0 (ints l0) rfl ((HS0.out.ext X1.out).ext ((Ext.refl' w1).al _)) (ints_one l0) (by omega) (by unfold maxLen; omega) (by simp) ?_; intro B d w2 hown hchg hat)
  have own2 : w2.ownsRow w1.heap.size 3 1 (.slice B n0 d) n0 (ints l0) := by simpa [ints] using hown
  have X2 := Lib.hid (X1.out.tr (hchg.ext ((Ext.refl' w1).al _) (fun k hk => by simp [Value.ownBlock] at hk; omega)))
  clear hown hchg hat
  obtain rfl : n0 = 8 := by have h1 := H0.out; have h2 := H8.out; omega
  obtain ⟨g, rfl⟩ : ∃ g, B = some ⟨g, 0, none⟩ := by
    rcases own2.2 with ⟨_, h0⟩ | ⟨g, cap, cur, hv, _⟩
    · omega
    · injection hv with h1; exact ⟨g, h1⟩
  have hg := (own2.lt g rfl).1
  have O2 := Lib.hid (own_base (b' := w.heap.size) own2 (by omega))
  have hgb := Lib.hid hg
  clear own2 hg
  go_wp2
  go_loopw [6] (fun i wr => ∃ k : Nat, k ≤ n1 ∧ i = .int .i64 k ∧ wr.ownsRow w.heap.size 3 1 (.slice (some ⟨g, 0, none⟩) 8 d) 8 (ints (setTo l0 l1 k)) ∧ Ext w wr) (fun i _ => n1 - (intOf i).toNat)
  case atStart => exact ⟨0, Nat.zero_le _, rfl, O2.out, X2.out⟩
  case round =>
    obtain ⟨k, hk, rfl, ho, hx⟩ := hrel
    have HO := Lib.hid ho
    have HX := Lib.hid hx
    clear ho hx
    by_cases hlt : (k : Int) < (n1 : Int)
    rotate_left
    · have e : Hid (k = l1.length) := by have h := H1.out; show k = _; omega
      go_wp2
      go_ret
      exact ⟨_, _, _, rfl, by rw [HY.out, ← e.out]; exact HO.out, HX.out⟩
    obtain ⟨b, o, rfl⟩ := HS1.out.addr (by omega)
    obtain ⟨s, hsk, hblt, hc⟩ := (HS1.out.ext HX.out).flat_cell (k := k) Row.cells_length (by omega) (by omega)
    have hb0 := (HS1.out.flat_cell (k := k) Row.cells_length (by omega) (by omega)).choose_spec.2.1
    obtain ⟨g0, g1⟩ := s
    have k0 := hc 0 (by omega)
    have k1 := hc 1 (by omega)
    simp only [Row.cells, List.getElem?_cons_zero, List.getElem?_cons_succ, Nat.add_zero] at k0 k1
    have hok := HRW.out k (by have h := H1.out; omega) _ hsk
    obtain ⟨j, rfl⟩ : ∃ j : Nat, g0 = (j : Int) := ⟨g0.toNat, by have := hok.1.1; simp only at this; omega⟩
    have hj : j < 8 := by have := hok.1.2; simp only at this; omega
    have HSK := Lib.hid hsk
    obtain ⟨v, hv⟩ : ∃ v, wr.cell? ⟨g, j, none⟩ = some v := by
      rw [HO.out.cellAt j (by omega)]
      exact ⟨_, List.getElem?_eq_getElem (by rw [ints_length, own_len1 HO.out]; exact hj)⟩
    have hf := HO.out.frozenAt (g := g) j
    have hgl := (HO.out.lt g rfl).2
    have hbg : b ≠ g := by have := hgb.out; omega
    have hj1 : (j : Int) < 8 := by omega
    have hj0 : (0 : Int) ≤ (j : Int) := by omega
    have hb1 : (0 : Int) ≤ (k : Int) := by omega
    have HJ8 := Lib.hid hj
    have HK := Lib.hid hk
    have HLT : Hid (k < n1) := by show k < n1; omega
    clear hsk hc hok hj hb0 hk
    go_wp2
    go_region_law (fail)
    all_goals
      go_wp2
      go_roundw
      case rel =>
        exact ⟨k + 1, by have := HLT.out; omega, by go_num, by rw [setTo_succ HSK.out, ← ints_set]; exact HO.out.drew.stored j (.int .i64 g1) |>.1, (HX.out.dr).sc (p := ⟨g, j, none⟩) (by have := hgb.out; show w.heap.size ≤ g; omega) _⟩
      case measure => have := HLT.out; simp [intOf]; omega
  
end Go.Proofs.YtglplgbhhnmgbaaGreat

namespace Go.Proofs.YtglplgbhhnmgbaaGreat
open Go.RowKit Go.Deep
set_option linter.unusedSimpArgs false
set_option linter.unusedVariables false

/-- An entry of a history: in range, its stamp not there before. -/
def hOne (l : List Wrote) (i : Nat) (x : Wrote) : Prop := (1 ≤ x.stamp_ ∧ x.stamp_ ≤ 1000000) ∧ (1 ≤ x.who_ ∧ x.who_ ≤ 99) ∧ rowsOk x.puts_ = true ∧ ∀ (k : Nat) (y : Wrote), k < i → l[k]? = some y → y.stamp_ ≠ x.stamp_
noncomputable def histOk (l : List Wrote) : Bool := dec (l.length ≤ 200 ∧ AllTo (hOne l) l l.length)
/-- An element of a slice with depth: its cells. -/
theorem hist_at {w : World} {S : Nat → Prop} {b o n k : Nat} {l : List Wrote} (h : SlR Wrote.R 3 w S (some ⟨b, o, none⟩) n l) (hk : k < n) : ∃ (x : Wrote) (A0 : Option Addr) (n0 c0 : Nat), l[k]? = some x ∧ b < w.heap.size ∧ w.cell? ⟨b, o + k * 3, none⟩ = some (.int .i64 x.stamp_) ∧ w.cell? ⟨b, o + k * 3 + 1, none⟩ = some (.int .i64 x.who_) ∧ w.cell? ⟨b, o + k * 3 + 2, none⟩ = some (.slice A0 n0 c0) ∧ n0 ≤ c0 ∧ Sl w S 2 A0 n0 (x.puts_.flatMap Row.cells) ∧ x.puts_.length = n0 := by
  obtain ⟨x, row, hx, hb, ⟨A0, n0, c0, rfl, h1, h2, h3⟩, hc⟩ := h.at_ hk
  exact ⟨x, A0, n0, c0, hx, hb, hc 0 (by omega), hc 1 (by omega), hc 2 (by omega), h1, h3, h3.flen Row.cells_length (by omega)⟩
set_option maxHeartbeats 8000000 in
theorem spec_HistOk (A : Option Addr) (n c : Nat) (l : List Wrote) (w : World) (S : Nat → Prop) (hs : SlR Wrote.R 3 w S A n l) (hm : n ≤ 1048576) (hp : ∀ x ∈ l, x.puts_.length ≤ 1048576) :
    Calls Tryz.prog 21 #[.slice A n c] w fun e w' => e = .returned (.bool (histOk l)) ∧ Ext w w' := by
  have H : Hid (l.length = n) := hs.1
  by_cases h200 : n ≤ 200
  rotate_left
  · go_enter Tryz.func21, Tryz.ntmps21
    go_wp2
    go_ret
    exact ⟨by rw [histOk, dec_no fun h => h200 (by rw [← H.out]; exact h.1)]; rfl, Ext.refl' _⟩
  have HS := Lib.hid hs
  have HP := Lib.hid hp
  clear hs hp
  go_enter Tryz.func21, Tryz.ntmps21
  go_wp2
  go_loopw [3] (fun i wr => ∃ k : Nat, k ≤ n ∧ i = .int .i64 k ∧ Hid (AllTo (hOne l) l k) ∧ Hid (Ext w wr)) (fun i _ => n - (intOf i).toNat)
  case atStart => exact ⟨0, Nat.zero_le _, rfl, AllTo.zero _ _, Ext.refl' _⟩
  case round =>
    obtain ⟨k, hk, rfl, HU, HE⟩ := hrel
    by_cases hlt : k < n
    rotate_left
    · go_wp2
      go_ret
      have e : k = l.length := by rw [H.out]; omega
      exact ⟨by rw [histOk, dec_yes ⟨by rw [H.out]; exact h200, by rw [← e]; exact HU.out⟩]; rfl, HE.out⟩
    obtain ⟨b, o, rfl⟩ := HS.out.addr (by omega)
    obtain ⟨x, A0, n0, c0, hx, hb, q0, q1, q2, hnc, hsl, hl0⟩ := hist_at (HS.out.ext Wrote.R_good HE.out) hlt
    have HX := Lib.hid hx
    have HSL := Lib.hid hsl
    have HN0 : Hid (n0 ≤ 1048576) := by show _ ≤ _; rw [← hl0]; exact HP.out x (List.mem_of_getElem? hx)
    obtain ⟨x0, x1, x2⟩ := x
    have HK : Hid (k < n) := hlt
    simp only at q0 q1 HSL
    clear hx hsl hl0 hnc
    have NO : ∀ {p : Prop}, (hOne l k ⟨x0, x1, x2⟩ → p) → ¬ p → histOk l = false := fun f g => by
      rw [histOk, dec_no fun h => AllTo.not HX.out (by rw [H.out]; exact HK.out) (fun q => g (f q)) h.2]
    by_cases h0 : 1 ≤ x0 ∧ x0 ≤ 1000000
    rotate_left
    · have d0 : decide (1 ≤ x0 ∧ x0 ≤ 1000000) = false := by simpa using h0
      have HN := Lib.hid (NO (fun q => q.1) h0)
      clear h0 NO
      go_wp2_with ((go_at_call 53; refine (l1In_any _ _ _ _).mono ?_; rintro e w' ⟨rfl, rfl⟩); rw [d0])
      go_ret
      exact ⟨by rw [HN.out]; rfl, HE.out⟩
    have d0 : decide (1 ≤ x0 ∧ x0 ≤ 1000000) = true := by simpa using h0
    have H0 := Lib.hid h0
    clear h0
    by_cases h1 : 1 ≤ x1 ∧ x1 ≤ 99
    rotate_left
    · have d1 : decide (1 ≤ x1 ∧ x1 ≤ 99) = false := by simpa using h1
      have HN := Lib.hid (NO (fun q => q.2.1) h1)
      clear h1 NO
      go_wp2_with ((go_at_call 53; refine (l1In_any _ _ _ _).mono ?_; rintro e w' ⟨rfl, rfl⟩); first | rw [d0] | rw [d1])
      go_ret
      exact ⟨by rw [HN.out]; rfl, HE.out⟩
    have d1 : decide (1 ≤ x1 ∧ x1 ≤ 99) = true := by simpa using h1
    have H1 := Lib.hid h1
    clear h1
    cases h2 : rowsOk x2
    · have HN := Lib.hid (NO (fun q => q.2.2.1) (by simp only; rw [h2]; simp))
      clear NO
      go_wp2_with (first | ((go_at_call 53; refine (l1In_any _ _ _ _).mono ?_; rintro e w' ⟨rfl, rfl⟩); first | rw [d0] | rw [d1]) | (go_at_call 22; refine (spec_RowsOk _ _ _ x2 _ _ HSL.out HN0.out).mono ?_; rintro e w' ⟨rfl, x9⟩; rw [h2]; replace HE := Lib.hid (HE.out.tr x9); clear x9))
      go_ret
      exact ⟨by rw [HN.out]; rfl, HE.out⟩
    have H2 := Lib.hid h2
    go_wp2_with (first | ((go_at_call 53; refine (l1In_any _ _ _ _).mono ?_; rintro e w' ⟨rfl, rfl⟩); first | rw [d0] | rw [d1]) | (go_at_call 22; refine (spec_RowsOk _ _ _ x2 _ _ HSL.out HN0.out).mono ?_; rintro e w' ⟨rfl, x9⟩; rw [h2]; replace HE := Lib.hid (HE.out.tr x9); clear x9))
    clear h2 d0 d1 q0 q1 q2 hb
    go_loopw [4] (fun i wr => ∃ j : Nat, j ≤ k ∧ i = .int .i64 j ∧ Hid (∀ (q : Nat) (y : Wrote), q < j → l[q]? = some y → y.stamp_ ≠ x0) ∧ Hid (Ext w wr)) (fun i _ => k - (intOf i).toNat)
    case atStart => exact ⟨0, Nat.zero_le _, rfl, fun _ _ h => absurd h (Nat.not_lt_zero _), HE⟩
    case round =>
      clear HE
      obtain ⟨j, hj, rfl, HD, HE⟩ := hrel
      by_cases hjk : j < k
      rotate_left
      · obtain rfl : k = j := by omega
        go_wp2
        go_roundw
        case rel => exact ⟨k + 1, HK.out, by go_num, Lib.hid (HU.out.succ HX.out ⟨H0.out, H1.out, H2.out, HD.out⟩), HE⟩
        case measure => have := HK.out; simp [intOf]; omega
      have HJ : Hid (j < k) := hjk
      obtain ⟨y, A1, n1, c1, hy, hb, p0, _, _, _, _, _⟩ := hist_at (HS.out.ext Wrote.R_good HE.out) (show j < n by omega)
      obtain ⟨x', _, _, _, hx', _, r0, _, _, _, _, _⟩ := hist_at (HS.out.ext Wrote.R_good HE.out) hlt
      rw [HX.out] at hx'
      injection hx' with hx'
      subst hx'
      simp only at r0
      have HY := Lib.hid hy
      clear hy
      by_cases hs0 : y.stamp_ = x0
      · have HN := Lib.hid (NO (fun q => q.2.2.2 j y HJ.out HY.out) (fun h => h hs0))
        have bs : (y.stamp_ == x0) = true := by simpa using hs0
        clear hs0 NO
        go_wp2
        go_quiet (fail)
        go_wp2
        go_ret
        exact ⟨by rw [HN.out]; rfl, HE.out.drN nq⟩
      have bs : (y.stamp_ == x0) = false := by simpa using hs0
      have HS0 := Lib.hid hs0
      clear hs0
      go_wp2
      go_quiet (fail)
      go_wp2
      go_roundw
      case rel =>
        refine ⟨j + 1, HJ.out, by go_num, Lib.hid fun q z hq hz => ?_, Lib.hid (HE.out.drN nq)⟩
        by_cases e : q = j
        · subst e; rw [HY.out] at hz; injection hz with hz; subst hz; exact HS0.out
        · exact HD.out q z (by omega) hz
      case measure => have := HJ.out; simp [intOf]; omega
end Go.Proofs.YtglplgbhhnmgbaaGreat
