/- PoolOver of program and reference; the contract of laws.FnExactPoolOver. No condition. -/
import Derived.Test.YtfkbomcbcjjlbaaPoolT
namespace Go.Proofs.Ytfkbomcbcjjlbaa
open Go.RowKit Go.Deep

def isEnded (s : Int) : Prop := s = 4
theorem ovC_any (x : Int) (w : World) :
    Calls Try.prog 42 #[.int .i64 x] w fun e w' => e = .returned (.bool (!dec (isEnded x))) ∧ Ext w w' := by
  by_cases h : x = 4
  · have b0 : (x != 4) = false := by simp [h]
    rw [dec_yes (show isEnded x from h)]
    clear h
    go_enter Try.func42, Try.ntmps42
    go_wp2
    go_ret
    exact ⟨rfl, Ext.refl' _⟩
  · have b0 : (x != 4) = true := by simp [h]
    rw [dec_no (show ¬ isEnded x from h)]
    clear h
    go_enter Try.func42, Try.ntmps42
    go_wp2
    go_ret
    exact ⟨rfl, Ext.refl' _⟩

set_option maxHeartbeats 4000000 in
theorem idxov_any (A : Option Addr) (n c : Nat) (l : List Int) (w : World) (S : Nat → Prop) (hs : Sl w S 1 A n (ints l)) (hm : n ≤ 9223372036854775807) :
    Calls Try.prog 54 #[.slice A n c, .func (.func 42) #[] #[]] w fun e w' => ∃ i : Int, e = .returned (.int .i64 i) ∧ ((i = -1 ∧ AllTo (fun _ x => isEnded x) l l.length) ∨ (0 ≤ i ∧ ¬ AllTo (fun _ x => isEnded x) l l.length)) ∧ Ext w w' := by
  have H := Lib.hid (hs.len)
  have HS := Lib.hid hs
  clear hs
  go_enter Try.func54, Try.ntmps54
  go_wp2
  go_loopw [8] (fun i wr => ∃ k : Nat, k ≤ n ∧ i = .int .i64 k ∧ AllTo (fun _ x => isEnded x) l k ∧ Ext w wr) (fun i _ => n - (intOf i).toNat)
  case atStart => exact ⟨0, Nat.zero_le _, rfl, AllTo.zero _ _, Ext.refl' _⟩
  case round =>
    obtain ⟨k, hk, rfl, hup, hx⟩ := hrel
    have HU := Lib.hid hup
    have HX := Lib.hid hx
    clear hup hx
    by_cases hlt : (k : Int) < (n : Int)
    · 
      obtain ⟨b, o, rfl⟩ := HS.out.addr (by omega)
      obtain ⟨x, hsk, -, k0⟩ := (HS.out.ext HX.out).int_cell (k := k) (by omega)
      have HSK := Lib.hid hsk
      clear hsk
      go_wp2_with fail
      refine (ovC_any x _).mono ?_
      rintro e w2 ⟨rfl, x2⟩
      have X2 := Lib.hid (HX.out.tr x2)
      clear x2
      by_cases h0 : isEnded x
      · have H0 := Lib.hid h0
        rw [dec_yes h0]
        clear h0
        go_wp2
        go_roundw
        case rel => exact ⟨k + 1, by omega, by go_num, HU.out.succ HSK.out H0.out, X2.out⟩
        case measure => simp [intOf]; omega
      · have H0 := Lib.hid h0
        rw [dec_no h0]
        clear h0
        go_wp2
        go_ret
        exact ⟨k, rfl, .inr ⟨by omega, fun h => AllTo.not HSK.out (by have a := H.out; omega) (fun q => H0.out q) h⟩, X2.out⟩
    · have e : Hid (k = l.length) := by show k = _; have a := H.out; omega
      go_wp2
      go_ret
      exact ⟨-1, rfl, .inl ⟨rfl, by rw [← e.out]; exact HU.out⟩, HX.out⟩

theorem anyov_any (A : Option Addr) (n c : Nat) (l : List Int) (w : World) (S : Nat → Prop) (hs : Sl w S 1 A n (ints l)) (hm : n ≤ 9223372036854775807) :
    Calls Try.prog 41 #[.slice A n c, .func (.func 42) #[] #[]] w fun e w' => e = .returned (.bool (!dec (AllTo (fun _ x => isEnded x) l l.length))) ∧ Ext w w' := by
  go_enter Try.func41, Try.ntmps41
  go_wp2_with fail
  refine (idxov_any _ _ _ _ _ _ hs hm).mono ?_
  rintro e w1 ⟨i, rfl, hi, x1⟩
  have X1 := Lib.hid x1
  clear x1
  rcases hi with ⟨rfl, hx⟩ | ⟨hi, hx⟩
  · have HX := Lib.hid hx
    clear hx
    go_wp2
    go_ret
    exact ⟨by rw [dec_yes HX.out]; rfl, X1.out⟩
  · have HX := Lib.hid hx
    clear hx
    go_wp2
    go_ret
    exact ⟨by rw [dec_no HX.out]; rfl, X1.out⟩
noncomputable def poolOver (x : Pool) : Bool := dec (AllTo (fun _ s => isEnded s) x.state_ x.state_.length)
set_option maxHeartbeats 4000000 in
theorem impl_PoolOver (x : Pool) (cs : List Value) (w : World) (S : Nat → Prop) (h : Pool.R w S cs x) (_hw : Pool.wt x ≤ 1048576) :
    Calls Try.prog 20 #[.agg cs.toArray] w fun e w' => e = .returned (.bool (poolOver x)) ∧ Ext w w' := by
  obtain ⟨A0, n0, c0, A1, n1, c1, A2, n2, c2, A3, n3, c3, A4, n4, c4, A5, n5, c5, A6, n6, c6, rfl, ⟨kh0, mh0, h0⟩, ⟨kh1, mh1, h1⟩, ⟨kh2, mh2, h2⟩, ⟨kh3, mh3, h3⟩, ⟨kh4, mh4, h4⟩, ⟨kh5, mh5, h5⟩, ⟨kh6, mh6, h6⟩⟩ := h
  have HX := Lib.hid ((Ext.refl' w).al (.cells #[.slice A0 n0 c0, .slice A1 n1 c1, .slice A2 n2 c2, .slice A3 n3 c3, .slice A4 n4 c4, .slice A5 n5 c5, .slice A6 n6 c6] 36))
  have HS := Lib.hid (h4.ext HX.out)
  clear h0 h1 h2 h3 h4 h5 h6
  show Calls Try.prog _ #[.agg #[.slice A0 n0 c0, .slice A1 n1 c1, .slice A2 n2 c2, .slice A3 n3 c3, .slice A4 n4 c4, .slice A5 n5 c5, .slice A6 n6 c6]] w _
  go_enter Try.func20, Try.ntmps20
  go_wp2_with fail
  refine (anyov_any _ _ _ _ _ S HS.out mh4).mono ?_
  rintro e w1 ⟨rfl, x1⟩
  have X1 := Lib.hid (HX.out.tr x1)
  clear x1
  go_wp2
  go_ret
  exact ⟨by unfold poolOver; cases dec (AllTo (fun _ s => isEnded s) x.state_ x.state_.length) <;> rfl, X1.out⟩

set_option maxHeartbeats 4000000 in
theorem spec_PoolOver (x : Pool) (cs : List Value) (w : World) (S : Nat → Prop) (h : Pool.R w S cs x) (_hw : Pool.wt x ≤ 1048576) :
    Calls Try.prog 18 #[.agg cs.toArray] w fun e w' => e = .returned (.bool (poolOver x)) ∧ Ext w w' := by
  obtain ⟨A0, n0, c0, A1, n1, c1, A2, n2, c2, A3, n3, c3, A4, n4, c4, A5, n5, c5, A6, n6, c6, rfl, ⟨kh0, mh0, h0⟩, ⟨kh1, mh1, h1⟩, ⟨kh2, mh2, h2⟩, ⟨kh3, mh3, h3⟩, ⟨kh4, mh4, h4⟩, ⟨kh5, mh5, h5⟩, ⟨kh6, mh6, h6⟩⟩ := h
  have HX := Lib.hid ((Ext.refl' w).al (.cells #[.slice A0 n0 c0, .slice A1 n1 c1, .slice A2 n2 c2, .slice A3 n3 c3, .slice A4 n4 c4, .slice A5 n5 c5, .slice A6 n6 c6] 36))
  have HS := Lib.hid (h4.ext HX.out)
  have H := Lib.hid h4.len
  clear h0 h1 h2 h3 h4 h5 h6
  show Calls Try.prog _ #[.agg #[.slice A0 n0 c0, .slice A1 n1 c1, .slice A2 n2 c2, .slice A3 n3 c3, .slice A4 n4 c4, .slice A5 n5 c5, .slice A6 n6 c6]] w _
  go_enter Try.func18, Try.ntmps18
  go_wp2
  go_loop [3] (fun i => ∃ k : Nat, k ≤ n4 ∧ i = .int .i64 k ∧ AllTo (fun _ s => isEnded s) x.state_ k) (fun i => n4 - (intOf i).toNat)
  case atStart => exact ⟨0, Nat.zero_le _, rfl, AllTo.zero _ _⟩
  case round =>
    obtain ⟨k, hk, rfl, hup⟩ := hrel
    have HU := Lib.hid hup
    clear hup
    by_cases hlt : (k : Int) < (n4 : Int)
    · obtain ⟨b, o, rfl⟩ := HS.out.addr (by omega)
      obtain ⟨s, hsk, -, k0⟩ := HS.out.int_cell (k := k) (by omega)
      have HSK := Lib.hid hsk
      clear hsk
      by_cases h0 : s = 4
      · have b0 : (s != 4) = false := by simp [h0]
        have H0 := Lib.hid h0
        clear h0
        go_wp2
        go_round
        case rel => exact ⟨k + 1, by omega, by go_num, HU.out.succ HSK.out H0.out⟩
        case measure => simp [intOf]; omega
      · have b0 : (s != 4) = true := by simp [h0]
        have H0 := Lib.hid h0
        clear h0
        go_wp2
        go_ret
        exact ⟨by rw [poolOver, dec_no fun h => AllTo.not HSK.out (by have a := H.out; omega) (fun q => H0.out q) h]; rfl, HX.out⟩
    · have e : Hid (k = x.state_.length) := by show k = _; have a := H.out; omega
      go_wp2
      go_ret
      exact ⟨by rw [poolOver, dec_yes (by rw [← e.out]; exact HU.out)]; rfl, HX.out⟩

set_option maxRecDepth 8000 in
set_option maxHeartbeats 16000000 in
theorem law_PoolOver (x0 : Pool) (cs0 : List Value) (w : World) (h0 : Pool.R w (fun _ => True) cs0 x0) :
    Calls Try.prog 5 #[.agg cs0.toArray] w fun e w' => e = .returned (.bool true) ∧ Ext w w' := by
  have H0 := Lib.hid h0
  obtain ⟨A0_0, n0_0, c0_0, A0_1, n0_1, c0_1, A0_2, n0_2, c0_2, A0_3, n0_3, c0_3, A0_4, n0_4, c0_4, A0_5, n0_5, c0_5, A0_6, n0_6, c0_6, rfl⟩ := Pool.R_cells h0
  clear h0
  show Calls Try.prog _ #[.agg #[.slice A0_0 n0_0 c0_0, .slice A0_1 n0_1 c0_1, .slice A0_2 n0_2 c0_2, .slice A0_3 n0_3 c0_3, .slice A0_4 n0_4 c0_4, .slice A0_5 n0_5 c0_5, .slice A0_6 n0_6 c0_6]] w _
  go_enter Try.func5, Try.ntmps5
  go_wp2_with fail
  refine (szPool_any x0 _ (1048576 : Int) _ _ (Pool.R_good.ext H0.out ((Ext.refl' w).al _)) (by omega) (by omega)).mono ?_
  rintro e w1 ⟨r0, rfl, Q0, xw1⟩
  replace Q0 := Lib.hid Q0
  have ba0 : Hid (Bx w1 (w.heap.size) 31 #[.slice A0_0 n0_0 c0_0, .slice A0_1 n0_1 c0_1, .slice A0_2 n0_2 c0_2, .slice A0_3 n0_3 c0_3, .slice A0_4 n0_4 c0_4, .slice A0_5 n0_5 c0_5, .slice A0_6 n0_6 c0_6]) := Bx.ext (Bx.new' _ _ _ rfl) xw1
  have X1 : Hid (Ext w w1) := ((Ext.refl' w).al _).tr xw1
  clear xw1
  by_cases g0 : 0 ≤ r0
  rotate_left
  · have e0 : r0 = -1 := by have a := Q0.out; unfold Left at a; omega
    subst e0
    clear g0
    go_wp2
    go_ret
    exact ⟨rfl, (X1.out.tr (Ext.refl' w1))⟩
  have N0 : Pool.wt x0 ≤ 1048576 := by have a := Q0.out; unfold Left at a; omega
  have u0 : r0 ≤ 1048576 := by have a := Q0.out; unfold Left at a; omega
  have ea0_0 : w1.cell? ⟨w.heap.size, 0, none⟩ = some (.slice A0_0 n0_0 c0_0) := ba0.out.cell 0
  have ea0_1 : w1.cell? ⟨w.heap.size, 1, none⟩ = some (.slice A0_1 n0_1 c0_1) := ba0.out.cell 1
  have ea0_2 : w1.cell? ⟨w.heap.size, 2, none⟩ = some (.slice A0_2 n0_2 c0_2) := ba0.out.cell 2
  have ea0_3 : w1.cell? ⟨w.heap.size, 3, none⟩ = some (.slice A0_3 n0_3 c0_3) := ba0.out.cell 3
  have ea0_4 : w1.cell? ⟨w.heap.size, 4, none⟩ = some (.slice A0_4 n0_4 c0_4) := ba0.out.cell 4
  have ea0_5 : w1.cell? ⟨w.heap.size, 5, none⟩ = some (.slice A0_5 n0_5 c0_5) := ba0.out.cell 5
  have ea0_6 : w1.cell? ⟨w.heap.size, 6, none⟩ = some (.slice A0_6 n0_6 c0_6) := ba0.out.cell 6
  go_wp2_with fail
  refine (toPool_any x0 _ _ _ (Pool.R_good.ext H0.out (X1.out.tr (Ext.refl' w1))) N0).mono ?_
  rintro e w2 ⟨cv, rfl, o2, x2⟩
  replace o2 := Lib.hid o2
  obtain ⟨B2_0, p2_0, d2_0, B2_1, p2_1, d2_1, B2_2, p2_2, d2_2, B2_3, p2_3, d2_3, B2_4, p2_4, d2_4, B2_5, p2_5, d2_5, B2_6, p2_6, d2_6, rfl⟩ := Pool.W_cells o2.out
  clear ea0_0 ea0_1 ea0_2 ea0_3 ea0_4 ea0_5 ea0_6
  replace ba0 := Lib.hid (ba0.out.ext (Ext.tr (Ext.refl' w1) x2))
  have X2 : Hid (Ext w w2) := (X1.out.tr (Ext.refl' w1)).tr x2
  clear x2
  go_wp2_with fail
  refine (spec_PoolOver x0 _ _ _ (Pool.W_R (Pool.W_good.ext o2.out (Ext.refl' w2))) N0).mono ?_
  rintro e w3 ⟨rfl, x3⟩
  replace ba0 := Lib.hid (ba0.out.ext (Ext.tr (Ext.refl' w2) x3))
  replace o2 := Lib.hid (Pool.W_good.ext o2.out (Ext.tr (Ext.refl' w2) x3))
  have X3 : Hid (Ext w w3) := (X2.out.tr (Ext.refl' w2)).tr x3
  clear x3
  clear o2
  have ea0_0 : w3.cell? ⟨w.heap.size, 0, none⟩ = some (.slice A0_0 n0_0 c0_0) := ba0.out.cell 0
  have ea0_1 : w3.cell? ⟨w.heap.size, 1, none⟩ = some (.slice A0_1 n0_1 c0_1) := ba0.out.cell 1
  have ea0_2 : w3.cell? ⟨w.heap.size, 2, none⟩ = some (.slice A0_2 n0_2 c0_2) := ba0.out.cell 2
  have ea0_3 : w3.cell? ⟨w.heap.size, 3, none⟩ = some (.slice A0_3 n0_3 c0_3) := ba0.out.cell 3
  have ea0_4 : w3.cell? ⟨w.heap.size, 4, none⟩ = some (.slice A0_4 n0_4 c0_4) := ba0.out.cell 4
  have ea0_5 : w3.cell? ⟨w.heap.size, 5, none⟩ = some (.slice A0_5 n0_5 c0_5) := ba0.out.cell 5
  have ea0_6 : w3.cell? ⟨w.heap.size, 6, none⟩ = some (.slice A0_6 n0_6 c0_6) := ba0.out.cell 6
  go_wp2_with fail
  refine (toPool_any x0 _ _ _ (Pool.R_good.ext H0.out (X3.out.tr (Ext.refl' w3))) N0).mono ?_
  rintro e w4 ⟨cv, rfl, o4, x4⟩
  replace o4 := Lib.hid o4
  obtain ⟨B4_0, p4_0, d4_0, B4_1, p4_1, d4_1, B4_2, p4_2, d4_2, B4_3, p4_3, d4_3, B4_4, p4_4, d4_4, B4_5, p4_5, d4_5, B4_6, p4_6, d4_6, rfl⟩ := Pool.W_cells o4.out
  clear ea0_0 ea0_1 ea0_2 ea0_3 ea0_4 ea0_5 ea0_6
  replace ba0 := Lib.hid (ba0.out.ext (Ext.tr (Ext.refl' w3) x4))
  have X4 : Hid (Ext w w4) := (X3.out.tr (Ext.refl' w3)).tr x4
  clear x4
  go_wp2_with fail
  refine (impl_PoolOver x0 _ _ _ (Pool.W_R (Pool.W_good.ext o4.out ((Ext.refl' w4).al _))) N0).mono ?_
  rintro e w5 ⟨rfl, x5⟩
  replace ba0 := Lib.hid (ba0.out.ext (Ext.tr ((Ext.refl' w4).al _) x5))
  have bx0 : Hid (Bx w5 (w4.heap.size) 36 #[.slice B4_0 p4_0 d4_0, .slice B4_1 p4_1 d4_1, .slice B4_2 p4_2 d4_2, .slice B4_3 p4_3 d4_3, .slice B4_4 p4_4 d4_4, .slice B4_5 p4_5 d4_5, .slice B4_6 p4_6 d4_6]) := Bx.ext (Bx.new' _ _ _ rfl) x5
  replace o4 := Lib.hid (Pool.W_good.ext o4.out (Ext.tr ((Ext.refl' w4).al _) x5))
  have X5 : Hid (Ext w w5) := (X4.out.tr ((Ext.refl' w4).al _)).tr x5
  clear x5
  have ex0_0 : w5.cell? ⟨w4.heap.size, 0, none⟩ = some (.slice B4_0 p4_0 d4_0) := bx0.out.cell 0
  have ex0_1 : w5.cell? ⟨w4.heap.size, 1, none⟩ = some (.slice B4_1 p4_1 d4_1) := bx0.out.cell 1
  have ex0_2 : w5.cell? ⟨w4.heap.size, 2, none⟩ = some (.slice B4_2 p4_2 d4_2) := bx0.out.cell 2
  have ex0_3 : w5.cell? ⟨w4.heap.size, 3, none⟩ = some (.slice B4_3 p4_3 d4_3) := bx0.out.cell 3
  have ex0_4 : w5.cell? ⟨w4.heap.size, 4, none⟩ = some (.slice B4_4 p4_4 d4_4) := bx0.out.cell 4
  have ex0_5 : w5.cell? ⟨w4.heap.size, 5, none⟩ = some (.slice B4_5 p4_5 d4_5) := bx0.out.cell 5
  have ex0_6 : w5.cell? ⟨w4.heap.size, 6, none⟩ = some (.slice B4_6 p4_6 d4_6) := bx0.out.cell 6
  have ea0_0 : w5.cell? ⟨w.heap.size, 0, none⟩ = some (.slice A0_0 n0_0 c0_0) := ba0.out.cell 0
  have ea0_1 : w5.cell? ⟨w.heap.size, 1, none⟩ = some (.slice A0_1 n0_1 c0_1) := ba0.out.cell 1
  have ea0_2 : w5.cell? ⟨w.heap.size, 2, none⟩ = some (.slice A0_2 n0_2 c0_2) := ba0.out.cell 2
  have ea0_3 : w5.cell? ⟨w.heap.size, 3, none⟩ = some (.slice A0_3 n0_3 c0_3) := ba0.out.cell 3
  have ea0_4 : w5.cell? ⟨w.heap.size, 4, none⟩ = some (.slice A0_4 n0_4 c0_4) := ba0.out.cell 4
  have ea0_5 : w5.cell? ⟨w.heap.size, 5, none⟩ = some (.slice A0_5 n0_5 c0_5) := ba0.out.cell 5
  have ea0_6 : w5.cell? ⟨w.heap.size, 6, none⟩ = some (.slice A0_6 n0_6 c0_6) := ba0.out.cell 6
  go_wp2_with fail
  go_region_with (first | (go_at_call 19; refine (toPool_any x0 _ _ _ (Pool.R_good.ext H0.out (X5.out.tr ((Ext.refl' w5).dr))) N0).mono ?_; rintro e w6 ⟨cv, rfl, o6, x6⟩; replace o6 := Lib.hid o6; obtain ⟨B6_0, p6_0, d6_0, B6_1, p6_1, d6_1, B6_2, p6_2, d6_2, B6_3, p6_3, d6_3, B6_4, p6_4, d6_4, B6_5, p6_5, d6_5, B6_6, p6_6, d6_6, rfl⟩ := Pool.W_cells o6.out; have bq : Hid (Bx w6 (w4.heap.size) 36 #[.slice B4_0 p4_0 d4_0, .slice B4_1 p4_1 d4_1, .slice B4_2 p4_2 d4_2, .slice B4_3 p4_3 d4_3, .slice B4_4 p4_4 d4_4, .slice B4_5 p4_5 d4_5, .slice B4_6 p4_6 d4_6]) := Bx.ext ((bx0.out.ext ((Ext.refl' w5).dr))) x6; have eq_0 : w6.cell? ⟨w4.heap.size, 0, none⟩ = some (.slice B4_0 p4_0 d4_0) := bq.out.cell 0; have eq_1 : w6.cell? ⟨w4.heap.size, 1, none⟩ = some (.slice B4_1 p4_1 d4_1) := bq.out.cell 1; have eq_2 : w6.cell? ⟨w4.heap.size, 2, none⟩ = some (.slice B4_2 p4_2 d4_2) := bq.out.cell 2; have eq_3 : w6.cell? ⟨w4.heap.size, 3, none⟩ = some (.slice B4_3 p4_3 d4_3) := bq.out.cell 3; have eq_4 : w6.cell? ⟨w4.heap.size, 4, none⟩ = some (.slice B4_4 p4_4 d4_4) := bq.out.cell 4; have eq_5 : w6.cell? ⟨w4.heap.size, 5, none⟩ = some (.slice B4_5 p4_5 d4_5) := bq.out.cell 5; have eq_6 : w6.cell? ⟨w4.heap.size, 6, none⟩ = some (.slice B4_6 p4_6 d4_6) := bq.out.cell 6) | (go_at_call 21; refine (eqPool_same x0 _ _ _ _ _ (Pool.W_R (Pool.W_good.ext o4.out (Ext.tr ((Ext.refl' w5).dr) x6))) (Pool.W_R o6.out)).mono ?_; rintro e w7 ⟨rfl, x7⟩))
  all_goals
    clear bq eq_0 eq_1 eq_2 eq_3 eq_4 eq_5 eq_6
    replace x7 := Ext.tr x6 x7
    clear o6
    clear ex0_0 ex0_1 ex0_2 ex0_3 ex0_4 ex0_5 ex0_6 ea0_0 ea0_1 ea0_2 ea0_3 ea0_4 ea0_5 ea0_6
    replace ba0 := Lib.hid (ba0.out.ext (Ext.tr ((Ext.refl' w5).dr) x7))
    replace bx0 := Lib.hid (bx0.out.ext (Ext.tr ((Ext.refl' w5).dr) x7))
    replace o4 := Lib.hid (Pool.W_good.ext o4.out (Ext.tr ((Ext.refl' w5).dr) x7))
    have X7 : Hid (Ext w w7) := (X5.out.tr ((Ext.refl' w5).dr)).tr x7
    clear x7
    go_wp2
    go_ret
    exact ⟨rfl, (X7.out.tr (Ext.refl' w7))⟩

end Go.Proofs.Ytfkbomcbcjjlbaa
