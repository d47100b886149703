/- ShowWrote of program and reference; the contract of laws.FnExactShowWrote. No condition. -/
import Derived.Test.YtbclkgjjmpipfaaRowsOk
import Derived.Test.YtbclkgjjmpipfaaJournR
import Derived.Test.YtbclkgjjmpipfaaVar
import Derived.Deep.RegionHeld3
namespace Go.Proofs.Ytbclkgjjmpipfaa
open Go.RowKit Go.Deep

/-- Element i of the rows: its cell is above the one ahead of it. -/
def netAt (l : List Row) (i : Nat) (x : Row) : Prop := ∀ y, 0 < i → l[i - 1]? = some y → y.cell < x.cell
noncomputable def netOk (l : List Row) : Bool := dec (AllTo (netAt l) l l.length ∧ rowsOk l = true)
noncomputable def wroteOk (f0 f1 : Int) (l : List Row) : Bool := dec ((1 ≤ f0 ∧ f0 ≤ 1000000) ∧ (1 ≤ f1 ∧ f1 ≤ 99) ∧ netOk l = true)
theorem AllTo.mono' {α : Type} {p : Nat → α → Prop} {l : List α} {k n : Nat} (h : AllTo p l k) (hn : n ≤ k) : AllTo p l n := fun i hi a ha => h i (by omega) a ha
theorem net_one (l : List Row) : AllTo (netAt l) l 1 := fun i hi a _ y h => by omega
theorem net_next {l : List Row} {k : Nat} {x y : Row} (h : AllTo (netAt l) l (k + 1)) (hy : l[k]? = some y) (hx : l[k + 1]? = some x) (hlt : y.cell < x.cell) : AllTo (netAt l) l (k + 1 + 1) :=
  h.succ hx fun z _ hz => by rw [Nat.add_sub_cancel, hy] at hz; injection hz with hz; subst hz; exact hlt
theorem net_not {l : List Row} {k : Nat} {x y : Row} (hy : l[k]? = some y) (hx : l[k + 1]? = some x) (hlt : ¬ y.cell < x.cell) : ¬ AllTo (netAt l) l l.length := fun h =>
  hlt (h (k + 1) (List.getElem?_eq_some_iff.1 hx).1 x hx y (by omega) (by rw [Nat.add_sub_cancel]; exact hy))
theorem net_end {l : List Row} {k n : Nat} (hl : l.length = n) (hk : n ≤ k + 1) (h : AllTo (netAt l) l (k + 1)) : AllTo (netAt l) l l.length := h.mono' (by omega)

theorem isOwner_any (x : Int) (w : World) :
    Calls Try.prog 47 #[.int .i64 x] w fun e w' => e = .returned (.bool (decide (1 ≤ x ∧ x ≤ 99))) ∧ w = w' := by
  go_enter Try.func47, Try.ntmps47
  go_wp2_with (go_at_call 46; refine (within_any _ _ _ _).mono ?_; rintro e w' ⟨rfl, rfl⟩)
  go_ret
  simp


set_option maxHeartbeats 4000000 in
theorem impl_isNet (A : Option Addr) (n c : Nat) (l : List Row) (w : World) (S : Nat → Prop) (hs : Sl w S 2 A n (l.flatMap Row.cells)) (hm : n ≤ 1048576) :
    Calls Try.prog 48 #[.slice A n c] w fun e w' => e = .returned (.bool (netOk l)) ∧ Ext w w' := by
  have H := Lib.hid (hs.flen Row.cells_length (by omega))
  have HS := Lib.hid hs
  clear hs
  go_enter Try.func48, Try.ntmps48
  go_wp2
  go_loopw [3] (fun i wr => ∃ k : Nat, (k + 1 ≤ n ∨ k = 0) ∧ i = .int .i64 ((k + 1 : Nat) : Int) ∧ AllTo (netAt l) l (k + 1) ∧ Ext w wr) (fun i _ => n - (intOf i).toNat)
  case atStart => exact ⟨0, .inr rfl, rfl, net_one l, Ext.refl' _⟩
  case round =>
    obtain ⟨k, hk, rfl, hup, hx⟩ := hrel
    have HX := Lib.hid hx
    have HU := Lib.hid hup
    clear hup hx
    by_cases hlt : k + 1 < n
    rotate_left
    · have hlt' : ¬ ((k + 1 : Nat) : Int) < (n : Int) := by omega
      have HE := Lib.hid (net_end H.out (by omega) HU.out)
      go_wp2_with fail
      refine (impl_RowsOk _ _ _ l _ S (HS.out.ext HX.out) hm).mono ?_
      rintro e w2 ⟨rfl, x2⟩
      have X2 := Lib.hid (HX.out.tr x2)
      clear x2
      go_wp2
      go_ret
      refine ⟨?_, X2.out⟩
      have h2 : netOk l = rowsOk l := by
        cases hr : rowsOk l
        · exact dec_no fun h => by rw [hr] at h; exact absurd h.2 (by simp)
        · exact dec_yes ⟨HE.out, hr⟩
      rw [h2]
      rfl
    obtain ⟨b, o, rfl⟩ := HS.out.addr (by omega)
    obtain ⟨p, hp, -, hcp⟩ := (HS.out.ext HX.out).flat_cell (k := k) Row.cells_length (by omega) (by omega)
    obtain ⟨s, hsk, -, hc⟩ := (HS.out.ext HX.out).flat_cell (k := k + 1) Row.cells_length (by omega) (by omega)
    obtain ⟨p0, p1⟩ := p
    obtain ⟨g0, g1⟩ := s
    have m0 := hcp 0 (by omega)
    have k0 := hc 0 (by omega)
    simp only [Row.cells, List.getElem?_cons_zero, Nat.add_zero] at m0 k0
    have HP := Lib.hid hp
    have HSK := Lib.hid hsk
    have ws1 : IntKind.i64.wrap ((k : Int) + 1 - 1) = (k : Int) := by rw [IntWalk.i64_in _ (by omega)]; omega
    have ws2 : IntKind.i64.wrap (((k + 1 : Nat) : Int) - 1) = (k : Int) := by rw [IntWalk.i64_in _ (by omega)]; omega
    have ws3 : (k : Int) + 1 - 1 = (k : Int) := by omega
    have hb1 : (0 : Int) ≤ (k : Int) := by omega
    have hb2 : (k : Int) < (n : Int) := by omega
    have hb3 : (0 : Int) ≤ ((k + 1 : Nat) : Int) := by omega
    have hb4 : ((k + 1 : Nat) : Int) < (n : Int) := by omega
    clear hsk hc hp hcp
    by_cases hcmp : p0 < g0
    · have hd : ¬ g0 ≤ p0 := by omega
      have hd2 : decide (g0 ≤ p0) = false := by simp; omega
      have HC := Lib.hid hcmp
      clear hcmp
      go_wp2
      go_quiet (fail)
      go_wp2
      go_roundw
      case rel => exact ⟨k + 1, .inl (by omega), by go_num, net_next HU.out HP.out HSK.out HC.out, HX.out.drN _⟩
      case measure => simp [intOf]; omega
    · have hd2 : decide (g0 ≤ p0) = true := by simp; omega
      have hd : g0 ≤ p0 := by omega
      have HC := Lib.hid hcmp
      have HN := Lib.hid (net_not HP.out HSK.out HC.out)
      clear hcmp
      go_wp2
      go_quiet (fail)
      go_wp2
      go_ret
      exact ⟨by rw [netOk, dec_no fun h => HN.out h.1]; rfl, HX.out.drN _⟩

set_option maxHeartbeats 4000000 in
theorem spec_l24Ok (f0 f1 : Int) (A : Option Addr) (n c : Nat) (l : List Row) (w : World) (S : Nat → Prop) (hs : Sl w S 2 A n (l.flatMap Row.cells)) (hm : n ≤ 1048576) :
    Calls Try.prog 44 #[.agg #[.int .i64 f0, .int .i64 f1, .slice A n c]] w fun e w' => e = .returned (.bool (wroteOk f0 f1 l)) ∧ Ext w w' := by
  have H := Lib.hid (hs.flen Row.cells_length (by omega))
  have HX0 := Lib.hid ((Ext.refl' w).al (.cells #[.int .i64 f0, .int .i64 f1, .slice A n c] 33))
  have HB0 : Hid (Bx (w.alloc (.cells #[.int .i64 f0, .int .i64 f1, .slice A n c] 33)) w.heap.size 33 #[.int .i64 f0, .int .i64 f1, .slice A n c]) := Bx.new' _ _ _ rfl
  have HS := Lib.hid hs
  clear hs
  by_cases h0 : 1 ≤ f0 ∧ f0 ≤ 1000000
  rotate_left
  · have HN : Hid (wroteOk f0 f1 l = false) := dec_no fun h => h0 h.1
    have d0 : decide (1 ≤ f0 ∧ f0 ≤ 1000000) = false := by simpa using h0
    clear h0
    go_enter Try.func44, Try.ntmps44
    go_wp2_with (go_at_call 59; refine (l1In_any _ _ _ _).mono ?_; rintro e w' ⟨rfl, rfl⟩)
    go_ret
    exact ⟨by rw [HN.out]; rfl, HX0.out⟩
  have d0 : decide (1 ≤ f0 ∧ f0 ≤ 1000000) = true := by simpa using h0
  by_cases h1 : 1 ≤ f1 ∧ f1 ≤ 99
  rotate_left
  · have HN : Hid (wroteOk f0 f1 l = false) := dec_no fun h => h1 h.2.1
    have d1 : decide (1 ≤ f1 ∧ f1 ≤ 99) = false := by simpa using h1
    clear h0 h1
    go_enter Try.func44, Try.ntmps44
    go_wp2_with (go_at_call 59; refine (l1In_any _ _ _ _).mono ?_; rintro e w' ⟨rfl, rfl⟩)
    go_ret
    exact ⟨by rw [HN.out]; rfl, HX0.out⟩
  have d1 : decide (1 ≤ f1 ∧ f1 ≤ 99) = true := by simpa using h1
  cases hr : rowsOk l
  · have HN : Hid (wroteOk f0 f1 l = false) := dec_no fun h => by have h2 := (dec_true h.2.2).2; rw [hr] at h2; exact absurd h2 (by simp)
    clear h0 h1
    go_enter Try.func44, Try.ntmps44
    go_wp2_with (go_at_call 59; refine (l1In_any _ _ _ _).mono ?_; rintro e w' ⟨rfl, rfl⟩)
    refine (spec_RowsOk _ _ _ l _ S (HS.out.ext HX0.out) hm).mono ?_
    rintro e w2 ⟨rfl, x2⟩
    rw [hr]
    clear hr
    have X2 := Lib.hid (HX0.out.tr x2)
    clear x2
    go_wp2
    go_ret
    exact ⟨by rw [HN.out]; rfl, X2.out⟩
  have HH := Lib.hid h0
  have HH1 := Lib.hid h1
  have HR := Lib.hid hr
  clear h0 h1
  go_enter Try.func44, Try.ntmps44
  go_wp2_with (go_at_call 59; refine (l1In_any _ _ _ _).mono ?_; rintro e w' ⟨rfl, rfl⟩)
  refine (spec_RowsOk _ _ _ l _ S (HS.out.ext HX0.out) hm).mono ?_
  rintro e w2 ⟨rfl, x2⟩
  rw [hr]
  clear hr d0 d1
  have X2 := Lib.hid (HX0.out.tr x2)
  have HB2 := Lib.hid (HB0.out.ext x2)
  clear x2
  go_wp2
  go_loopw [3] (fun i wr => ∃ k : Nat, (k + 1 ≤ n ∨ k = 0) ∧ i = .int .i64 ((k + 1 : Nat) : Int) ∧ AllTo (netAt l) l (k + 1) ∧ Ext w wr ∧ Hid (Bx wr w.heap.size 33 #[.int .i64 f0, .int .i64 f1, .slice A n c])) (fun i _ => n - (intOf i).toNat)
  case atStart => exact ⟨0, .inr rfl, rfl, net_one l, X2.out, HB2⟩
  case round =>
    obtain ⟨k, hk, rfl, hup, hx, hbx⟩ := hrel
    have HX := Lib.hid hx
    have HU := Lib.hid hup
    have hsz : w.heap.size < wr.heap.size := hbx.out.lt
    have q2 : wr.cell? ⟨w.heap.size, 2, none⟩ = some (.slice A n c) := hbx.out.cell 2
    clear hup hx
    by_cases hlt : k + 1 < n
    rotate_left
    · have hlt' : ¬ ((k + 1 : Nat) : Int) < (n : Int) := by omega
      have HE := Lib.hid (net_end H.out (by omega) HU.out)
      have HY : Hid (wroteOk f0 f1 l = true) := dec_yes ⟨HH.out, HH1.out, dec_yes ⟨HE.out, HR.out⟩⟩
      go_wp2
      go_ret
      exact ⟨by rw [HY.out]; rfl, HX.out⟩
    obtain ⟨b, o, rfl⟩ := HS.out.addr (by omega)
    obtain ⟨p, hp, -, hcp⟩ := (HS.out.ext HX.out).flat_cell (k := k) Row.cells_length (by omega) (by omega)
    obtain ⟨s, hsk, -, hc⟩ := (HS.out.ext HX.out).flat_cell (k := k + 1) Row.cells_length (by omega) (by omega)
    obtain ⟨p0, p1⟩ := p
    obtain ⟨g0, g1⟩ := s
    have m0 := hcp 0 (by omega)
    have k0 := hc 0 (by omega)
    simp only [Row.cells, List.getElem?_cons_zero, Nat.add_zero] at m0 k0
    have HP := Lib.hid hp
    have HSK := Lib.hid hsk
    have ws1 : IntKind.i64.wrap ((k : Int) + 1 - 1) = (k : Int) := by rw [IntWalk.i64_in _ (by omega)]; omega
    have ws2 : IntKind.i64.wrap (((k + 1 : Nat) : Int) - 1) = (k : Int) := by rw [IntWalk.i64_in _ (by omega)]; omega
    have ws3 : (k : Int) + 1 - 1 = (k : Int) := by omega
    have hb1 : (0 : Int) ≤ (k : Int) := by omega
    have hb2 : (k : Int) < (n : Int) := by omega
    have hb3 : (0 : Int) ≤ ((k + 1 : Nat) : Int) := by omega
    have hb4 : ((k + 1 : Nat) : Int) < (n : Int) := by omega
    clear hsk hc hp hcp
    by_cases hcmp : p0 < g0
    · have hd : ¬ g0 ≤ p0 := by omega
      have hd2 : decide (g0 ≤ p0) = false := by simp; omega
      have HC := Lib.hid hcmp
      clear hcmp
      go_wp2
      go_quiet (fail)
      go_wp2
      go_roundw
      case rel => exact ⟨k + 1, .inl (by omega), by go_num, net_next HU.out HP.out HSK.out HC.out, HX.out.drN _, hbx.out.drN _⟩
      case measure => simp [intOf]; omega
    · have hd2 : decide (g0 ≤ p0) = true := by simp; omega
      have hd : g0 ≤ p0 := by omega
      have HC := Lib.hid hcmp
      have HN : Hid (wroteOk f0 f1 l = false) := dec_no fun h => net_not HP.out HSK.out HC.out (dec_true h.2.2).1
      clear hcmp
      go_wp2
      go_quiet (fail)
      go_wp2
      go_ret
      exact ⟨by rw [HN.out]; rfl, HX.out.drN _⟩

end Go.Proofs.Ytbclkgjjmpipfaa
