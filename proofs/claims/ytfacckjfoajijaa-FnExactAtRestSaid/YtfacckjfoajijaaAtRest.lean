/- AtRest of program and reference; the contract of laws.FnExactAtRest. No condition. -/
import Derived.Test.YtfacckjfoajijaaWWorld
import Derived.Test.YtfacckjfoajijaaMemOk
namespace Go.Proofs.Ytfacckjfoajijaa
open Go.RowKit Go.Deep

def noOwner (x : Word) : Prop := x.owner_ = 0
def noUndos (x : Root) : Prop := x.undos_.length = 0
theorem owC_any (f0 f1 f2 : Int) (w : World) :
    Calls Try.prog 60 #[.agg #[.int .i64 f0, .int .i64 f1, .int .i64 f2]] w fun e w' => e = .returned (.bool (!dec (noOwner ⟨f0, f1, f2⟩))) ∧ Ext w w' := by
  by_cases h : f2 = 0
  · have b0 : (f2 != 0) = false := by simp [h]
    rw [dec_yes (show noOwner ⟨f0, f1, f2⟩ from h)]
    clear h
    go_enter Try.func60, Try.ntmps60
    go_wp2
    go_ret
    exact ⟨rfl, (Ext.refl' _).al _⟩
  · have b0 : (f2 != 0) = true := by simp [h]
    rw [dec_no (show ¬ noOwner ⟨f0, f1, f2⟩ from h)]
    clear h
    go_enter Try.func60, Try.ntmps60
    go_wp2
    go_ret
    exact ⟨rfl, (Ext.refl' _).al _⟩
set_option maxHeartbeats 4000000 in
theorem unC_any (x : Root) (cs : List Value) (S : Nat → Prop) (w : World) (h : Root.R w S cs x) :
    Calls Try.prog 62 #[.agg cs.toArray] w fun e w' => e = .returned (.bool (!dec (noUndos x))) ∧ Ext w w' := by
  obtain ⟨A0, n0, c0, A1, n1, c1, A2, n2, c2, A3, n3, c3, A4, n4, c4, A5, n5, c5, v6, v7, rfl, ⟨kh0, mh0, h0⟩, ⟨kh1, mh1, h1⟩, ⟨kh2, mh2, h2⟩, ⟨kh3, mh3, h3⟩, ⟨kh4, mh4, h4⟩, ⟨kh5, mh5, h5⟩, h6, h7⟩ := h
  obtain ⟨A6, n6, c6, A7, n7, c7, rfl⟩ := Commit.R_cells h6
  obtain ⟨A8, n8, c8, A9, n9, c9, A10, n10, c10, A11, n11, c11, A12, n12, c12, A13, n13, c13, rfl⟩ := Family.R_cells h7
  have HUN := Lib.hid (h4.flen Undo.cells_length (by omega))
  clear h0 h1 h2 h3 h4 h5 h6 h7
  show Calls Try.prog _ #[.agg (List.toArray ((.int .i64 x.phase_) :: (.int .i64 x.tries_) :: (.int .i64 x.spare_) :: (.int .i64 x.pc_) :: (.int .i64 x.rv_) :: (.int .i64 x.newRv_) :: (.int .i64 x.at_) :: (.int .i64 x.fate_) :: (.int .i64 x.stamp_) :: (.int .i64 x.began_) :: (.int .i64 x.ended_) :: (.bool x.doomed_) :: (.slice A0 n0 c0) :: (.slice A1 n1 c1) :: (.slice A2 n2 c2) :: (.slice A3 n3 c3) :: (.slice A4 n4 c4) :: (.slice A5 n5 c5) :: (.bool x.busy_) :: (.int .i64 x.probe_.cell_) :: (.int .i64 x.probe_.phase_) :: (.int .i64 x.probe_.ver_) :: (.int .i64 x.probe_.val_) :: (.int .i64 x.commit_.who_) :: (.int .i64 x.commit_.rv_) :: (.int .i64 x.commit_.phase_) :: (.int .i64 x.commit_.at_) :: (.int .i64 x.commit_.wv_) :: (.slice A6 n6 c6) :: (.slice A7 n7 c7) :: (.int .i64 x.fam_.rv_) :: (.int .i64 x.fam_.clock_) :: (.int .i64 x.fam_.owner_) :: (.bool x.fam_.lost_) :: (.slice A8 n8 c8) :: (.slice A9 n9 c9) :: (.slice A10 n10 c10) :: (.slice A11 n11 c11) :: (.slice A12 n12 c12) :: (.slice A13 n13 c13) :: []))] w _
  by_cases h : x.undos_.length = 0
  · have b0 : ¬ (0 : Int) < (n4 : Int) := by have a := HUN.out; omega
    rw [dec_yes (show noUndos x from h)]
    clear h
    go_enter Try.func62, Try.ntmps62
    go_wp2
    go_ret
    exact ⟨by first | rfl | (simp; omega) | simp, (Ext.refl' _).al _⟩
  · have b0 : (0 : Int) < (n4 : Int) := by have a := HUN.out; omega
    rw [dec_no (show ¬ noUndos x from h)]
    clear h
    go_enter Try.func62, Try.ntmps62
    go_wp2
    go_ret
    exact ⟨by first | rfl | (simp; omega) | simp, (Ext.refl' _).al _⟩

set_option maxHeartbeats 4000000 in
theorem idxow_any (A : Option Addr) (n c : Nat) (l : List Word) (w : World) (S : Nat → Prop) (hs : Sl w S 3 A n (l.flatMap Word.cells)) (hm : n ≤ 9223372036854775807) :
    Calls Try.prog 98 #[.slice A n c, .func (.func 60) #[] #[]] w fun e w' => ∃ i : Int, e = .returned (.int .i64 i) ∧ ((i = -1 ∧ AllTo (fun _ x => noOwner x) l l.length) ∨ (0 ≤ i ∧ ¬ AllTo (fun _ x => noOwner x) l l.length)) ∧ Ext w w' := by
  have H := Lib.hid (hs.flen Word.cells_length (by omega))
  have HS := Lib.hid hs
  clear hs
  go_enter Try.func98, Try.ntmps98
  go_wp2
  go_loopw [8] (fun i wr => ∃ k : Nat, k ≤ n ∧ i = .int .i64 k ∧ AllTo (fun _ x => noOwner x) l k ∧ Ext w wr) (fun i _ => n - (intOf i).toNat)
  case atStart => exact ⟨0, Nat.zero_le _, rfl, AllTo.zero _ _, Ext.refl' _⟩
  case round =>
    obtain ⟨k, hk, rfl, hup, hx⟩ := hrel
    have HU := Lib.hid hup
    have HX := Lib.hid hx
    clear hup hx
    by_cases hlt : (k : Int) < (n : Int)
    · 
      obtain ⟨b, o, rfl⟩ := HS.out.addr (by omega)
      obtain ⟨x, hsk, -, hc⟩ := (HS.out.ext HX.out).flat_cell Word.cells_length (by omega) (k := k) (by omega)
      obtain ⟨g0, g1, g2⟩ := x
      have k0 := hc 0 (by omega)
      have k1 := hc 1 (by omega)
      have k2 := hc 2 (by omega)
      simp only [Word.cells, List.getElem?_cons_zero, List.getElem?_cons_succ, Nat.add_zero] at k0 k1 k2
      have HSK := Lib.hid hsk
      clear hsk hc
      go_wp2_with fail
      refine (owC_any g0 g1 g2 _).mono ?_
      rintro e w2 ⟨rfl, x2⟩
      have X2 := Lib.hid (HX.out.tr x2)
      clear x2
      by_cases h0 : noOwner (⟨g0, g1, g2⟩ : Word)
      · have H0 := Lib.hid h0
        rw [dec_yes h0]
        clear h0
        go_wp2
        go_roundw
        case rel => exact ⟨k + 1, by omega, by go_num, HU.out.succ HSK.out H0.out, X2.out⟩
        case measure => simp [intOf]; omega
      · have H0 := Lib.hid h0
        rw [dec_no h0]
        clear h0
        go_wp2
        go_ret
        exact ⟨k, rfl, .inr ⟨by omega, fun h => AllTo.not HSK.out (by have a := H.out; omega) (fun q => H0.out q) h⟩, X2.out⟩
    · have e : Hid (k = l.length) := by show k = _; have a := H.out; omega
      go_wp2
      go_ret
      exact ⟨-1, rfl, .inl ⟨rfl, by rw [← e.out]; exact HU.out⟩, HX.out⟩

theorem anyow_any (A : Option Addr) (n c : Nat) (l : List Word) (w : World) (S : Nat → Prop) (hs : Sl w S 3 A n (l.flatMap Word.cells)) (hm : n ≤ 9223372036854775807) :
    Calls Try.prog 59 #[.slice A n c, .func (.func 60) #[] #[]] w fun e w' => e = .returned (.bool (!dec (AllTo (fun _ x => noOwner x) l l.length))) ∧ Ext w w' := by
  go_enter Try.func59, Try.ntmps59
  go_wp2_with fail
  refine (idxow_any _ _ _ _ _ _ hs hm).mono ?_
  rintro e w1 ⟨i, rfl, hi, x1⟩
  have X1 := Lib.hid x1
  clear x1
  rcases hi with ⟨rfl, hx⟩ | ⟨hi, hx⟩
  · have HX := Lib.hid hx
    clear hx
    go_wp2
    go_ret
    exact ⟨by rw [dec_yes HX.out]; rfl, X1.out⟩
  · have HX := Lib.hid hx
    clear hx
    go_wp2
    go_ret
    exact ⟨by rw [dec_no HX.out]; rfl, X1.out⟩
set_option maxHeartbeats 4000000 in
theorem idxun_any (A : Option Addr) (n c : Nat) (l : List Root) (w : World) (S : Nat → Prop) (hs : SlR Root.R 40 w S A n l) (hm : n ≤ 9223372036854775807) :
    Calls Try.prog 99 #[.slice A n c, .func (.func 62) #[] #[]] w fun e w' => ∃ i : Int, e = .returned (.int .i64 i) ∧ ((i = -1 ∧ AllTo (fun _ x => noUndos x) l l.length) ∨ (0 ≤ i ∧ ¬ AllTo (fun _ x => noUndos x) l l.length)) ∧ Ext w w' := by
  have H := Lib.hid (hs.1)
  have HS := Lib.hid hs
  clear hs
  go_enter Try.func99, Try.ntmps99
  go_wp2
  go_loopw [8] (fun i wr => ∃ k : Nat, k ≤ n ∧ i = .int .i64 k ∧ AllTo (fun _ x => noUndos x) l k ∧ Ext w wr) (fun i _ => n - (intOf i).toNat)
  case atStart => exact ⟨0, Nat.zero_le _, rfl, AllTo.zero _ _, Ext.refl' _⟩
  case round =>
    obtain ⟨k, hk, rfl, hup, hx⟩ := hrel
    have HU := Lib.hid hup
    have HX := Lib.hid hx
    clear hup hx
    by_cases hlt : (k : Int) < (n : Int)
    · 
      obtain ⟨b, o, rfl⟩ := HS.out.addr (by omega)
      obtain ⟨x, row, hsk, -, hrw, hc⟩ := (HS.out.ext Root.R_good HX.out).at_ (k := k) (by omega)
      have hrg := Lib.hid (SlR.range Root.R_good hrw hc)
      have hln : Hid ((Try.prog.info? 49).map (·.size) = some row.length) := by show _ = _; rw [Root.R_good.len hrw]; exact Root.size_info
      have HRW := Lib.hid hrw
      have HSK := Lib.hid hsk
      clear hsk hc hrw
      go_wp2_with (refine wpList_load_mid rfl 49 _ rfl b (o + k * 40) rfl row _ hrg.out Try.underlying49 rfl hln.out ?_)
      refine (unC_any x _ S _ HRW.out).mono ?_
      rintro e w2 ⟨rfl, x2⟩
      have X2 := Lib.hid (HX.out.tr x2)
      clear x2
      by_cases h0 : noUndos x
      · have H0 := Lib.hid h0
        rw [dec_yes h0]
        clear h0
        go_wp2
        go_roundw
        case rel => exact ⟨k + 1, by omega, by go_num, HU.out.succ HSK.out H0.out, X2.out⟩
        case measure => simp [intOf]; omega
      · have H0 := Lib.hid h0
        rw [dec_no h0]
        clear h0
        go_wp2
        go_ret
        exact ⟨k, rfl, .inr ⟨by omega, fun h => AllTo.not HSK.out (by have a := H.out; omega) (fun q => H0.out q) h⟩, X2.out⟩
    · have e : Hid (k = l.length) := by show k = _; have a := H.out; omega
      go_wp2
      go_ret
      exact ⟨-1, rfl, .inl ⟨rfl, by rw [← e.out]; exact HU.out⟩, HX.out⟩

theorem anyun_any (A : Option Addr) (n c : Nat) (l : List Root) (w : World) (S : Nat → Prop) (hs : SlR Root.R 40 w S A n l) (hm : n ≤ 9223372036854775807) :
    Calls Try.prog 61 #[.slice A n c, .func (.func 62) #[] #[]] w fun e w' => e = .returned (.bool (!dec (AllTo (fun _ x => noUndos x) l l.length))) ∧ Ext w w' := by
  go_enter Try.func61, Try.ntmps61
  go_wp2_with fail
  refine (idxun_any _ _ _ _ _ _ hs hm).mono ?_
  rintro e w1 ⟨i, rfl, hi, x1⟩
  have X1 := Lib.hid x1
  clear x1
  rcases hi with ⟨rfl, hx⟩ | ⟨hi, hx⟩
  · have HX := Lib.hid hx
    clear hx
    go_wp2
    go_ret
    exact ⟨by rw [dec_yes HX.out]; rfl, X1.out⟩
  · have HX := Lib.hid hx
    clear hx
    go_wp2
    go_ret
    exact ⟨by rw [dec_no HX.out]; rfl, X1.out⟩
def restP (x : GWorld) : Prop := x.holds_.length = 0 ∧ x.token_ = 0 ∧ memOk x.mem_ = true ∧ AllTo (fun _ x => noOwner x) x.mem_.cells_ x.mem_.cells_.length ∧ AllTo (fun _ x => noUndos x) x.roots_ x.roots_.length
noncomputable def atRest (x : GWorld) : Bool := dec (restP x)

set_option maxHeartbeats 16000000 in
theorem impl_AtRest (x : GWorld) (cs : List Value) (w : World) (S : Nat → Prop) (h : GWorld.R w S cs x) (_hw : GWorld.wt x ≤ 1048576) :
    Calls Try.prog 18 #[.agg cs.toArray] w fun e w' => e = .returned (.bool (atRest x)) ∧ Ext w w' := by
  obtain ⟨v0, v1, A2, n2, c2, A3, n3, c3, A4, n4, c4, rfl, h0, h1, ⟨kh2, mh2, h2⟩, ⟨kh3, mh3, h3⟩, ⟨kh4, mh4, h4⟩⟩ := h
  obtain ⟨A0, n0, c0, rfl⟩ := Mem.R_cells h0
  obtain ⟨A1, n1, c1, rfl⟩ := Shelf.R_cells h1
  have HX := Lib.hid ((Ext.refl' w).al (.cells #[.int .i64 x.now_, .int .i64 x.token_, .int .i64 x.mem_.clock_, .slice A0 n0 c0, .slice A1 n1 c1, .int .i64 x.shelf_.count_, .slice A2 n2 c2, .slice A3 n3 c3, .slice A4 n4 c4] 74))
  have HB : Hid (Bx (w.alloc (.cells #[.int .i64 x.now_, .int .i64 x.token_, .int .i64 x.mem_.clock_, .slice A0 n0 c0, .slice A1 n1 c1, .int .i64 x.shelf_.count_, .slice A2 n2 c2, .slice A3 n3 c3, .slice A4 n4 c4] 74)) w.heap.size 74 #[.int .i64 x.now_, .int .i64 x.token_, .int .i64 x.mem_.clock_, .slice A0 n0 c0, .slice A1 n1 c1, .int .i64 x.shelf_.count_, .slice A2 n2 c2, .slice A3 n3 c3, .slice A4 n4 c4]) := Bx.new' _ _ _ rfl
  obtain ⟨mm, hm⟩ := Mem.R_open h0
  have HM := Lib.hid hm
  have HR := Lib.hid h3
  have HL := Lib.hid (h2.flen Hold.cells_length (by omega))
  clear h0 h1 h2 h3 h4 hm
  show Calls Try.prog _ #[.agg #[.int .i64 x.now_, .int .i64 x.token_, .int .i64 x.mem_.clock_, .slice A0 n0 c0, .slice A1 n1 c1, .int .i64 x.shelf_.count_, .slice A2 n2 c2, .slice A3 n3 c3, .slice A4 n4 c4]] w _
  by_cases hh : n2 = 0
  rotate_left
  · have HY := Lib.hid (dec_no (p := restP x) (fun z => hh (by have a := HL.out; have b := z.1; omega)))
    have hp : (0 : Int) < (n2 : Int) := by omega
    clear hh
    go_enter Try.func18, Try.ntmps18
    go_wp2
    go_ret
    exact ⟨by unfold atRest; rw [HY.out]; try rfl, HX.out⟩
  subst hh
  by_cases ht : x.token_ = 0
  rotate_left
  · have HY := Lib.hid (dec_no (p := restP x) (fun z => ht z.2.1))
    have bt : (x.token_ != 0) = true := by simpa using ht
    clear ht
    go_enter Try.func18, Try.ntmps18
    go_wp2
    go_ret
    exact ⟨by unfold atRest; rw [HY.out]; try rfl, HX.out⟩
  have HT := Lib.hid ht
  have bt : (x.token_ != 0) = false := by simp [ht]
  clear ht
  go_enter Try.func18, Try.ntmps18
  go_wp2_with fail
  refine (impl_MemOk x.mem_ _ _ _ _ S mm (HM.out.ext HX.out)).mono ?_
  rintro e w1 ⟨rfl, x1⟩
  have X1 := Lib.hid (HX.out.tr x1)
  have B1 := Lib.hid (HB.out.ext x1)
  clear x1
  cases hmo : memOk x.mem_
  · have HY := Lib.hid (dec_no (p := restP x) (fun z => by rw [z.2.2.1] at hmo; cases hmo))
    clear hmo
    go_wp2
    go_ret
    exact ⟨by unfold atRest; rw [HY.out]; try rfl, X1.out⟩
  have HMO := Lib.hid hmo
  clear hmo
  have q2 : w1.cell? ⟨w.heap.size, 2, none⟩ = some (.int .i64 x.mem_.clock_) := B1.out.cell 2
  have q3 : w1.cell? ⟨w.heap.size, 3, none⟩ = some (.slice A0 n0 c0) := B1.out.cell 3
  have q7 : w1.cell? ⟨w.heap.size, 7, none⟩ = some (.slice A3 n3 c3) := B1.out.cell 7
  go_wp2_with fail
  refine (anyow_any _ _ _ x.mem_.cells_ _ S (HM.out.ext X1.out) mm).mono ?_
  rintro e w2 ⟨rfl, x2⟩
  have X2 := Lib.hid (X1.out.tr x2)
  have B2 := Lib.hid (B1.out.ext x2)
  clear x2 q2 q3 q7
  have q7 : w2.cell? ⟨w.heap.size, 7, none⟩ = some (.slice A3 n3 c3) := B2.out.cell 7
  cases ha : dec (AllTo (fun _ x => noOwner x) x.mem_.cells_ x.mem_.cells_.length)
  · have HY := Lib.hid (dec_no (p := restP x) (fun z => by rw [dec_yes z.2.2.2.1] at ha; cases ha))
    clear ha
    go_wp2
    go_ret
    exact ⟨by unfold atRest; rw [HY.out]; try rfl, X2.out⟩
  have HA := Lib.hid ha
  clear ha
  go_wp2_with fail
  refine (anyun_any _ _ _ x.roots_ _ S (HR.out.ext Root.R_good X2.out) mh3).mono ?_
  rintro e w3 ⟨rfl, x3⟩
  have X3 := Lib.hid (X2.out.tr x3)
  clear x3
  cases hb : dec (AllTo (fun _ x => noUndos x) x.roots_ x.roots_.length)
  · have HY := Lib.hid (dec_no (p := restP x) (fun z => by rw [dec_yes z.2.2.2.2] at hb; cases hb))
    clear hb
    go_wp2
    go_ret
    exact ⟨by unfold atRest; rw [HY.out]; try rfl, X3.out⟩
  · have HY := Lib.hid (dec_yes (p := restP x) ⟨HL.out, HT.out, HMO.out, dec_true HA.out, dec_true hb⟩)
    clear hb
    go_wp2
    go_ret
    exact ⟨by unfold atRest; rw [HY.out]; try rfl, X3.out⟩
set_option maxHeartbeats 16000000 in
theorem spec_AtRest (x : GWorld) (cs : List Value) (w : World) (S : Nat → Prop) (h : GWorld.R w S cs x) (_hw : GWorld.wt x ≤ 1048576) :
    Calls Try.prog 16 #[.agg cs.toArray] w fun e w' => e = .returned (.bool (atRest x)) ∧ Ext w w' := by
  obtain ⟨v0, v1, A2, n2, c2, A3, n3, c3, A4, n4, c4, rfl, h0, h1, ⟨kh2, mh2, h2⟩, ⟨kh3, mh3, h3⟩, ⟨kh4, mh4, h4⟩⟩ := h
  obtain ⟨A0, n0, c0, rfl⟩ := Mem.R_cells h0
  obtain ⟨A1, n1, c1, rfl⟩ := Shelf.R_cells h1
  have HX := Lib.hid ((Ext.refl' w).al (.cells #[.int .i64 x.now_, .int .i64 x.token_, .int .i64 x.mem_.clock_, .slice A0 n0 c0, .slice A1 n1 c1, .int .i64 x.shelf_.count_, .slice A2 n2 c2, .slice A3 n3 c3, .slice A4 n4 c4] 74))
  have HB : Hid (Bx (w.alloc (.cells #[.int .i64 x.now_, .int .i64 x.token_, .int .i64 x.mem_.clock_, .slice A0 n0 c0, .slice A1 n1 c1, .int .i64 x.shelf_.count_, .slice A2 n2 c2, .slice A3 n3 c3, .slice A4 n4 c4] 74)) w.heap.size 74 #[.int .i64 x.now_, .int .i64 x.token_, .int .i64 x.mem_.clock_, .slice A0 n0 c0, .slice A1 n1 c1, .int .i64 x.shelf_.count_, .slice A2 n2 c2, .slice A3 n3 c3, .slice A4 n4 c4]) := Bx.new' _ _ _ rfl
  obtain ⟨mm, hm⟩ := Mem.R_open h0
  have HM := Lib.hid hm
  have HR := Lib.hid h3
  have HL := Lib.hid (h2.flen Hold.cells_length (by omega))
  clear h0 h1 h2 h3 h4 hm
  show Calls Try.prog _ #[.agg #[.int .i64 x.now_, .int .i64 x.token_, .int .i64 x.mem_.clock_, .slice A0 n0 c0, .slice A1 n1 c1, .int .i64 x.shelf_.count_, .slice A2 n2 c2, .slice A3 n3 c3, .slice A4 n4 c4]] w _
  by_cases hh : n2 = 0
  rotate_left
  · have HY := Lib.hid (dec_no (p := restP x) (fun z => hh (by have a := HL.out; have b := z.1; omega)))
    have hp : (0 : Int) < (n2 : Int) := by omega
    clear hh
    go_enter Try.func16, Try.ntmps16
    go_wp2
    go_ret
    exact ⟨by unfold atRest; rw [HY.out]; try rfl, HX.out⟩
  subst hh
  by_cases ht : x.token_ = 0
  rotate_left
  · have HY := Lib.hid (dec_no (p := restP x) (fun z => ht z.2.1))
    have bt : (x.token_ != 0) = true := by simpa using ht
    clear ht
    go_enter Try.func16, Try.ntmps16
    go_wp2
    go_ret
    exact ⟨by unfold atRest; rw [HY.out]; try rfl, HX.out⟩
  have HT := Lib.hid ht
  have bt : (x.token_ != 0) = false := by simp [ht]
  clear ht
  go_enter Try.func16, Try.ntmps16
  go_wp2_with fail
  refine (spec_MemOk x.mem_ _ _ _ _ S mm (HM.out.ext HX.out)).mono ?_
  rintro e w1 ⟨rfl, x1⟩
  have X1 := Lib.hid (HX.out.tr x1)
  have B1 := Lib.hid (HB.out.ext x1)
  clear x1
  cases hmo : memOk x.mem_
  · have HY := Lib.hid (dec_no (p := restP x) (fun z => by rw [z.2.2.1] at hmo; cases hmo))
    clear hmo
    go_wp2
    go_ret
    exact ⟨by unfold atRest; rw [HY.out]; try rfl, X1.out⟩
  have HMO := Lib.hid hmo
  clear hmo
  have q2 : w1.cell? ⟨w.heap.size, 2, none⟩ = some (.int .i64 x.mem_.clock_) := B1.out.cell 2
  have q3 : w1.cell? ⟨w.heap.size, 3, none⟩ = some (.slice A0 n0 c0) := B1.out.cell 3
  have q7 : w1.cell? ⟨w.heap.size, 7, none⟩ = some (.slice A3 n3 c3) := B1.out.cell 7
  have HLM := Lib.hid ((HM.out.flen Word.cells_length (by omega)))
  have HLR := Lib.hid HR.out.1
  go_wp2
  go_loop [3] (fun i => ∃ k : Nat, k ≤ n0 ∧ i = .int .i64 k ∧ AllTo (fun _ x => noOwner x) x.mem_.cells_ k) (fun i => n0 - (intOf i).toNat)
  case atStart => exact ⟨0, Nat.zero_le _, rfl, AllTo.zero _ _⟩
  case round =>
    obtain ⟨k, hk, rfl, hup⟩ := hrel
    have HU := Lib.hid hup
    clear hup
    by_cases hlt : (k : Int) < (n0 : Int)
    · obtain ⟨b, o, rfl⟩ := HM.out.addr (by omega)
      obtain ⟨s, hsk, -, hc⟩ := (HM.out.ext X1.out).flat_cell (k := k) Word.cells_length (by omega) (by omega)
      obtain ⟨f0, f1, f2⟩ := s
      have k2 := hc 2 (by omega)
      simp only [Word.cells, List.getElem?_cons_zero, List.getElem?_cons_succ] at k2
      have HSK := Lib.hid hsk
      clear hsk hc
      by_cases h0 : f2 = 0
      · have b0 : (f2 != 0) = false := by simp [h0]
        have H0 := Lib.hid (show noOwner ⟨f0, f1, f2⟩ from h0)
        clear h0
        go_wp2
        go_round
        case rel => exact ⟨k + 1, by omega, by go_num, HU.out.succ HSK.out H0.out⟩
        case measure => simp [intOf]; omega
      · have b0 : (f2 != 0) = true := by simp [h0]
        have HY := Lib.hid (dec_no (p := restP x) (fun z => AllTo.not HSK.out (by have a := HLM.out; omega) (fun q => h0 q) z.2.2.2.1))
        clear h0
        go_wp2
        go_ret
        exact ⟨by unfold atRest; rw [HY.out]; try rfl, X1.out⟩
    have HA : Hid (AllTo (fun _ x => noOwner x) x.mem_.cells_ x.mem_.cells_.length) := by show AllTo _ _ _; rw [show x.mem_.cells_.length = k by have a := HLM.out; omega]; exact HU.out
    clear HU
    go_wp2
    go_loop [4] (fun i => ∃ k : Nat, k ≤ n3 ∧ i = .int .i64 k ∧ AllTo (fun _ x => noUndos x) x.roots_ k) (fun i => n3 - (intOf i).toNat)
    case atStart => exact ⟨0, Nat.zero_le _, rfl, AllTo.zero _ _⟩
    case round =>
      obtain ⟨k, hk, rfl, hup⟩ := hrel
      have HU := Lib.hid hup
      clear hup
      by_cases hlt : (k : Int) < (n3 : Int)
      · obtain ⟨b, o, rfl⟩ := HR.out.addr (by omega)
        obtain ⟨r, row, hsk, -, hrw, hc⟩ := (HR.out.ext Root.R_good X1.out).at_ (k := k) (by omega)
        obtain ⟨R0, u0, s0, R1, u1, s1, R2, u2, s2, R3, u3, s3, R4, u4, s4, R5, u5, s5, vr6, vr7, rfl, ⟨kh0, mr0, h0⟩, ⟨kh1, mr1, h1⟩, ⟨kh2, mr2, h2⟩, ⟨kh3, mr3, h3⟩, ⟨kh4, mr4, h4⟩, ⟨kh5, mr5, h5⟩, h6, h7⟩ := hrw
        obtain ⟨R6, u6, s6, R7, u7, s7, rfl⟩ := Commit.R_cells h6
        obtain ⟨R8, u8, s8, R9, u9, s9, R10, u10, s10, R11, u11, s11, R12, u12, s12, R13, u13, s13, rfl⟩ := Family.R_cells h7
        have HUN := Lib.hid (h4.flen Undo.cells_length (by omega))
        have k16 := hc 16 (by omega)
        simp only [List.cons_append, List.nil_append, List.getElem?_cons_zero, List.getElem?_cons_succ] at k16
        have HSK := Lib.hid hsk
        clear hsk hc h0 h1 h2 h3 h4 h5 h6 h7
        by_cases h0 : r.undos_.length = 0
        · have b0 : ¬ (0 : Int) < (u4 : Int) := by have a := HUN.out; omega
          have H0 := Lib.hid (show noUndos r from h0)
          clear h0
          go_wp2
          go_round
          case rel => exact ⟨k + 1, by omega, by go_num, HU.out.succ HSK.out H0.out⟩
          case measure => simp [intOf]; omega
        · have b0 : (0 : Int) < (u4 : Int) := by have a := HUN.out; omega
          have HY := Lib.hid (dec_no (p := restP x) (fun z => AllTo.not HSK.out (by have a := HLR.out; omega) (fun q => h0 q) z.2.2.2.2))
          clear h0
          go_wp2
          go_ret
          exact ⟨by unfold atRest; rw [HY.out]; try rfl, X1.out⟩
      · have e : Hid (k = x.roots_.length) := by show k = _; have a := HLR.out; omega
        have HY := Lib.hid (dec_yes (p := restP x) ⟨HL.out, HT.out, HMO.out, HA.out, by rw [← e.out]; exact HU.out⟩)
        go_wp2
        go_ret
        exact ⟨by unfold atRest; rw [HY.out]; try rfl, X1.out⟩
set_option maxRecDepth 8000 in
set_option maxHeartbeats 16000000 in
theorem law_AtRest (x0 : GWorld) (cs0 : List Value) (w : World) (h0 : GWorld.R w (fun _ => True) cs0 x0) :
    Calls Try.prog 5 #[.agg cs0.toArray] w fun e w' => e = .returned (.bool true) ∧ Ext w w' := by
  have H0 := Lib.hid h0
  obtain ⟨A0_0, n0_0, c0_0, A0_1, n0_1, c0_1, A0_2, n0_2, c0_2, A0_3, n0_3, c0_3, A0_4, n0_4, c0_4, rfl⟩ := GWorld.R_cells h0
  clear h0
  show Calls Try.prog _ #[.agg #[.int .i64 x0.now_, .int .i64 x0.token_, .int .i64 x0.mem_.clock_, .slice A0_0 n0_0 c0_0, .slice A0_1 n0_1 c0_1, .int .i64 x0.shelf_.count_, .slice A0_2 n0_2 c0_2, .slice A0_3 n0_3 c0_3, .slice A0_4 n0_4 c0_4]] w _
  go_enter Try.func5, Try.ntmps5
  go_wp2_with fail
  refine (szGWorld_any x0 _ (1048576 : Int) _ _ (GWorld.R_good.ext H0.out ((Ext.refl' w).al _)) (by omega) (by omega)).mono ?_
  rintro e w1 ⟨r0, rfl, Q0, xw1⟩
  replace Q0 := Lib.hid Q0
  have ba0 : Hid (Bx w1 (w.heap.size) 63 #[.int .i64 x0.now_, .int .i64 x0.token_, .int .i64 x0.mem_.clock_, .slice A0_0 n0_0 c0_0, .slice A0_1 n0_1 c0_1, .int .i64 x0.shelf_.count_, .slice A0_2 n0_2 c0_2, .slice A0_3 n0_3 c0_3, .slice A0_4 n0_4 c0_4]) := Bx.ext (Bx.new' _ _ _ rfl) xw1
  have X1 : Hid (Ext w w1) := ((Ext.refl' w).al _).tr xw1
  clear xw1
  by_cases g0 : 0 ≤ r0
  rotate_left
  · have e0 : r0 = -1 := by have a := Q0.out; unfold Left at a; omega
    subst e0
    clear g0
    go_wp2
    go_ret
    exact ⟨rfl, (X1.out.tr (Ext.refl' w1))⟩
  have N0 : GWorld.wt x0 ≤ 1048576 := by have a := Q0.out; unfold Left at a; omega
  have u0 : r0 ≤ 1048576 := by have a := Q0.out; unfold Left at a; omega
  have ea0_0 : w1.cell? ⟨w.heap.size, 0, none⟩ = some (.int .i64 x0.now_) := ba0.out.cell 0
  have ea0_1 : w1.cell? ⟨w.heap.size, 1, none⟩ = some (.int .i64 x0.token_) := ba0.out.cell 1
  have ea0_2 : w1.cell? ⟨w.heap.size, 2, none⟩ = some (.int .i64 x0.mem_.clock_) := ba0.out.cell 2
  have ea0_3 : w1.cell? ⟨w.heap.size, 3, none⟩ = some (.slice A0_0 n0_0 c0_0) := ba0.out.cell 3
  have ea0_4 : w1.cell? ⟨w.heap.size, 4, none⟩ = some (.slice A0_1 n0_1 c0_1) := ba0.out.cell 4
  have ea0_5 : w1.cell? ⟨w.heap.size, 5, none⟩ = some (.int .i64 x0.shelf_.count_) := ba0.out.cell 5
  have ea0_6 : w1.cell? ⟨w.heap.size, 6, none⟩ = some (.slice A0_2 n0_2 c0_2) := ba0.out.cell 6
  have ea0_7 : w1.cell? ⟨w.heap.size, 7, none⟩ = some (.slice A0_3 n0_3 c0_3) := ba0.out.cell 7
  have ea0_8 : w1.cell? ⟨w.heap.size, 8, none⟩ = some (.slice A0_4 n0_4 c0_4) := ba0.out.cell 8
  go_wp2_with fail
  refine (toGWorld_any x0 _ _ _ (GWorld.R_good.ext H0.out (X1.out.tr (Ext.refl' w1))) N0).mono ?_
  rintro e w2 ⟨cv, rfl, o2, x2⟩
  replace o2 := Lib.hid o2
  obtain ⟨B2_0, p2_0, d2_0, B2_1, p2_1, d2_1, B2_2, p2_2, d2_2, B2_3, p2_3, d2_3, B2_4, p2_4, d2_4, rfl⟩ := GWorld.W_cells o2.out
  clear ea0_0 ea0_1 ea0_2 ea0_3 ea0_4 ea0_5 ea0_6 ea0_7 ea0_8
  replace ba0 := Lib.hid (ba0.out.ext (Ext.tr (Ext.refl' w1) x2))
  have X2 : Hid (Ext w w2) := (X1.out.tr (Ext.refl' w1)).tr x2
  clear x2
  go_wp2_with fail
  refine (spec_AtRest x0 _ _ _ (GWorld.W_R (GWorld.W_good.ext o2.out (Ext.refl' w2))) N0).mono ?_
  rintro e w3 ⟨rfl, x3⟩
  replace ba0 := Lib.hid (ba0.out.ext (Ext.tr (Ext.refl' w2) x3))
  replace o2 := Lib.hid (GWorld.W_good.ext o2.out (Ext.tr (Ext.refl' w2) x3))
  have X3 : Hid (Ext w w3) := (X2.out.tr (Ext.refl' w2)).tr x3
  clear x3
  clear o2
  have ea0_0 : w3.cell? ⟨w.heap.size, 0, none⟩ = some (.int .i64 x0.now_) := ba0.out.cell 0
  have ea0_1 : w3.cell? ⟨w.heap.size, 1, none⟩ = some (.int .i64 x0.token_) := ba0.out.cell 1
  have ea0_2 : w3.cell? ⟨w.heap.size, 2, none⟩ = some (.int .i64 x0.mem_.clock_) := ba0.out.cell 2
  have ea0_3 : w3.cell? ⟨w.heap.size, 3, none⟩ = some (.slice A0_0 n0_0 c0_0) := ba0.out.cell 3
  have ea0_4 : w3.cell? ⟨w.heap.size, 4, none⟩ = some (.slice A0_1 n0_1 c0_1) := ba0.out.cell 4
  have ea0_5 : w3.cell? ⟨w.heap.size, 5, none⟩ = some (.int .i64 x0.shelf_.count_) := ba0.out.cell 5
  have ea0_6 : w3.cell? ⟨w.heap.size, 6, none⟩ = some (.slice A0_2 n0_2 c0_2) := ba0.out.cell 6
  have ea0_7 : w3.cell? ⟨w.heap.size, 7, none⟩ = some (.slice A0_3 n0_3 c0_3) := ba0.out.cell 7
  have ea0_8 : w3.cell? ⟨w.heap.size, 8, none⟩ = some (.slice A0_4 n0_4 c0_4) := ba0.out.cell 8
  go_wp2_with fail
  refine (toGWorld_any x0 _ _ _ (GWorld.R_good.ext H0.out (X3.out.tr (Ext.refl' w3))) N0).mono ?_
  rintro e w4 ⟨cv, rfl, o4, x4⟩
  replace o4 := Lib.hid o4
  obtain ⟨B4_0, p4_0, d4_0, B4_1, p4_1, d4_1, B4_2, p4_2, d4_2, B4_3, p4_3, d4_3, B4_4, p4_4, d4_4, rfl⟩ := GWorld.W_cells o4.out
  clear ea0_0 ea0_1 ea0_2 ea0_3 ea0_4 ea0_5 ea0_6 ea0_7 ea0_8
  replace ba0 := Lib.hid (ba0.out.ext (Ext.tr (Ext.refl' w3) x4))
  have X4 : Hid (Ext w w4) := (X3.out.tr (Ext.refl' w3)).tr x4
  clear x4
  go_wp2_with fail
  refine (impl_AtRest x0 _ _ _ (GWorld.W_R (GWorld.W_good.ext o4.out ((Ext.refl' w4).al _))) N0).mono ?_
  rintro e w5 ⟨rfl, x5⟩
  replace ba0 := Lib.hid (ba0.out.ext (Ext.tr ((Ext.refl' w4).al _) x5))
  have bx0 : Hid (Bx w5 (w4.heap.size) 74 #[.int .i64 x0.now_, .int .i64 x0.token_, .int .i64 x0.mem_.clock_, .slice B4_0 p4_0 d4_0, .slice B4_1 p4_1 d4_1, .int .i64 x0.shelf_.count_, .slice B4_2 p4_2 d4_2, .slice B4_3 p4_3 d4_3, .slice B4_4 p4_4 d4_4]) := Bx.ext (Bx.new' _ _ _ rfl) x5
  replace o4 := Lib.hid (GWorld.W_good.ext o4.out (Ext.tr ((Ext.refl' w4).al _) x5))
  have X5 : Hid (Ext w w5) := (X4.out.tr ((Ext.refl' w4).al _)).tr x5
  clear x5
  have ex0_0 : w5.cell? ⟨w4.heap.size, 0, none⟩ = some (.int .i64 x0.now_) := bx0.out.cell 0
  have ex0_1 : w5.cell? ⟨w4.heap.size, 1, none⟩ = some (.int .i64 x0.token_) := bx0.out.cell 1
  have ex0_2 : w5.cell? ⟨w4.heap.size, 2, none⟩ = some (.int .i64 x0.mem_.clock_) := bx0.out.cell 2
  have ex0_3 : w5.cell? ⟨w4.heap.size, 3, none⟩ = some (.slice B4_0 p4_0 d4_0) := bx0.out.cell 3
  have ex0_4 : w5.cell? ⟨w4.heap.size, 4, none⟩ = some (.slice B4_1 p4_1 d4_1) := bx0.out.cell 4
  have ex0_5 : w5.cell? ⟨w4.heap.size, 5, none⟩ = some (.int .i64 x0.shelf_.count_) := bx0.out.cell 5
  have ex0_6 : w5.cell? ⟨w4.heap.size, 6, none⟩ = some (.slice B4_2 p4_2 d4_2) := bx0.out.cell 6
  have ex0_7 : w5.cell? ⟨w4.heap.size, 7, none⟩ = some (.slice B4_3 p4_3 d4_3) := bx0.out.cell 7
  have ex0_8 : w5.cell? ⟨w4.heap.size, 8, none⟩ = some (.slice B4_4 p4_4 d4_4) := bx0.out.cell 8
  have ea0_0 : w5.cell? ⟨w.heap.size, 0, none⟩ = some (.int .i64 x0.now_) := ba0.out.cell 0
  have ea0_1 : w5.cell? ⟨w.heap.size, 1, none⟩ = some (.int .i64 x0.token_) := ba0.out.cell 1
  have ea0_2 : w5.cell? ⟨w.heap.size, 2, none⟩ = some (.int .i64 x0.mem_.clock_) := ba0.out.cell 2
  have ea0_3 : w5.cell? ⟨w.heap.size, 3, none⟩ = some (.slice A0_0 n0_0 c0_0) := ba0.out.cell 3
  have ea0_4 : w5.cell? ⟨w.heap.size, 4, none⟩ = some (.slice A0_1 n0_1 c0_1) := ba0.out.cell 4
  have ea0_5 : w5.cell? ⟨w.heap.size, 5, none⟩ = some (.int .i64 x0.shelf_.count_) := ba0.out.cell 5
  have ea0_6 : w5.cell? ⟨w.heap.size, 6, none⟩ = some (.slice A0_2 n0_2 c0_2) := ba0.out.cell 6
  have ea0_7 : w5.cell? ⟨w.heap.size, 7, none⟩ = some (.slice A0_3 n0_3 c0_3) := ba0.out.cell 7
  have ea0_8 : w5.cell? ⟨w.heap.size, 8, none⟩ = some (.slice A0_4 n0_4 c0_4) := ba0.out.cell 8
  go_wp2_with fail
  go_region_with (first | (go_at_call 17; refine (toGWorld_any x0 _ _ _ (GWorld.R_good.ext H0.out (X5.out.tr ((Ext.refl' w5).dr))) N0).mono ?_; rintro e w6 ⟨cv, rfl, o6, x6⟩; replace o6 := Lib.hid o6; obtain ⟨B6_0, p6_0, d6_0, B6_1, p6_1, d6_1, B6_2, p6_2, d6_2, B6_3, p6_3, d6_3, B6_4, p6_4, d6_4, rfl⟩ := GWorld.W_cells o6.out; have bq : Hid (Bx w6 (w4.heap.size) 74 #[.int .i64 x0.now_, .int .i64 x0.token_, .int .i64 x0.mem_.clock_, .slice B4_0 p4_0 d4_0, .slice B4_1 p4_1 d4_1, .int .i64 x0.shelf_.count_, .slice B4_2 p4_2 d4_2, .slice B4_3 p4_3 d4_3, .slice B4_4 p4_4 d4_4]) := Bx.ext ((bx0.out.ext ((Ext.refl' w5).dr))) x6; have eq_0 : w6.cell? ⟨w4.heap.size, 0, none⟩ = some (.int .i64 x0.now_) := bq.out.cell 0; have eq_1 : w6.cell? ⟨w4.heap.size, 1, none⟩ = some (.int .i64 x0.token_) := bq.out.cell 1; have eq_2 : w6.cell? ⟨w4.heap.size, 2, none⟩ = some (.int .i64 x0.mem_.clock_) := bq.out.cell 2; have eq_3 : w6.cell? ⟨w4.heap.size, 3, none⟩ = some (.slice B4_0 p4_0 d4_0) := bq.out.cell 3; have eq_4 : w6.cell? ⟨w4.heap.size, 4, none⟩ = some (.slice B4_1 p4_1 d4_1) := bq.out.cell 4; have eq_5 : w6.cell? ⟨w4.heap.size, 5, none⟩ = some (.int .i64 x0.shelf_.count_) := bq.out.cell 5; have eq_6 : w6.cell? ⟨w4.heap.size, 6, none⟩ = some (.slice B4_2 p4_2 d4_2) := bq.out.cell 6; have eq_7 : w6.cell? ⟨w4.heap.size, 7, none⟩ = some (.slice B4_3 p4_3 d4_3) := bq.out.cell 7; have eq_8 : w6.cell? ⟨w4.heap.size, 8, none⟩ = some (.slice B4_4 p4_4 d4_4) := bq.out.cell 8) | (go_at_call 19; refine (eqGWorld_same x0 _ _ _ _ _ (GWorld.W_R (GWorld.W_good.ext o4.out (Ext.tr ((Ext.refl' w5).dr) x6))) (GWorld.W_R o6.out)).mono ?_; rintro e w7 ⟨rfl, x7⟩))
  all_goals
    clear bq eq_0 eq_1 eq_2 eq_3 eq_4 eq_5 eq_6 eq_7 eq_8
    replace x7 := Ext.tr x6 x7
    clear o6
    clear ex0_0 ex0_1 ex0_2 ex0_3 ex0_4 ex0_5 ex0_6 ex0_7 ex0_8 ea0_0 ea0_1 ea0_2 ea0_3 ea0_4 ea0_5 ea0_6 ea0_7 ea0_8
    replace ba0 := Lib.hid (ba0.out.ext (Ext.tr ((Ext.refl' w5).dr) x7))
    replace bx0 := Lib.hid (bx0.out.ext (Ext.tr ((Ext.refl' w5).dr) x7))
    replace o4 := Lib.hid (GWorld.W_good.ext o4.out (Ext.tr ((Ext.refl' w5).dr) x7))
    have X7 : Hid (Ext w w7) := (X5.out.tr ((Ext.refl' w5).dr)).tr x7
    clear x7
    go_wp2
    go_ret
    exact ⟨rfl, (X7.out.tr (Ext.refl' w7))⟩

end Go.Proofs.Ytfacckjfoajijaa
