/- The contract of laws.FnExactJournalRead. No condition. -/
import Derived.Test.YtbclkgjjmpipfaaJrM
namespace Go.Proofs.Ytbclkgjjmpipfaa
open Go.RowKit Go.Deep

theorem es_n {w : World} {base : Nat} {es : List JE} {s : ByteArray} (h : Inner w base es) (he : es.map JE.val = (jTo s 200).1) : ∀ x ∈ es, x.n ≤ 8 := fun x hx => by
  have h1 := (h x hx).1
  rw [flat_length Row.cells_length] at h1
  have h2 := jTo_rows s 200 x.val (by rw [← he]; exact List.mem_map_of_mem hx)
  have h3 : x.rs.length ≤ 8 := h2
  omega
theorem es_K {w : World} {base K : Nat} {v : Value} {es : List JE} {s : ByteArray} (h : w.ownsRow base 33 3 v K (es.flatMap JE.cells)) (he : es.map JE.val = (jTo s 200).1) : K = (jTo s 200).1.length ∧ K ≤ 200 := by
  have h1 := es_len h
  have h2 := congrArg List.length he
  rw [List.length_map] at h2
  have h3 := jTo_len s 200
  omega

set_option maxHeartbeats 4000000 in
theorem law_JournalRead (s : ByteArray) (w : World) :
    Calls Try.prog 7 #[.string s] w fun e w' => e = .returned (.bool true) ∧ Ext w w' := by
  by_cases h : (s.size : Int) ≤ 1048576
  rotate_left
  · go_enter Try.func7, Try.ntmps7
    go_wp2
    go_ret
    exact ⟨rfl, Ext.refl' _⟩
  have HS : Hid (s.size ≤ 1099511627776) := by show s.size ≤ _; omega
  go_enter Try.func7, Try.ntmps7
  go_wp2_with fail
  refine (spec_JournalReadP s HS.out _).mono ?_
  rintro e w1 ⟨B1, K1, d1, es1, at1, rfl, hes1, rfl, o1, i1, p1, x1⟩
  have E1 := Lib.hid hes1
  have O1 := Lib.hid o1
  have I1 := Lib.hid i1
  have X1 := Lib.hid x1
  have KK1 := Lib.hid (es_K o1 hes1)
  clear hes1 o1 i1 x1 p1
  go_wp2_with fail
  refine (impl_JournalReadP s HS.out _).mono ?_
  rintro e w2 ⟨B2, K2, d2, es2, at2, rfl, hes2, rfl, o2, i2, p2, x2⟩
  have KK2 := es_K o2 hes2
  obtain rfl : K2 = K1 := KK2.1.trans KK1.out.1.symm
  have E2 := Lib.hid hes2
  have O2 := Lib.hid o2
  have I2 := Lib.hid i2
  have P2 := Lib.hid p2
  have X2 := Lib.hid (X1.out.tr x2)
  have O1b := Lib.hid (own_ext O1.out x2)
  have I1b := Lib.hid (I1.out.ext x2)
  have HN := Lib.hid (es_n i2 hes2)
  have HK := Lib.hid KK2.2
  have z1 : w.heap.size ≤ w1.heap.size := X1.out.size
  clear KK2 hes2 o2 i2 p2 x2
  go_wp2_with fail
  refine (eqWroteS_same _ _ _ _ _ _ _ es2 es1 _ O2.out O1b.out I2.out I1b.out (E2.out.trans E1.out.symm) HN.out HK.out).mono ?_
  rintro e w3 ⟨rfl, x3⟩
  have X3 := Lib.hid (X2.out.tr x3)
  have O1c := Lib.hid (own_ext O1b.out x3)
  have I1c := Lib.hid (I1b.out.ext x3)
  have O2c := Lib.hid (own_ext O2.out x3)
  have I2c := Lib.hid (I2.out.ext x3)
  clear x3
  go_wp2_with fail
  refine (markWroteS_any _ _ _ _ es2 1 _ O2c.out I2c.out P2.out HN.out HK.out (by omega) (by omega)).mono ?_
  rintro e w4 ⟨rfl, o4, i4, cc⟩
  have O4 := Lib.hid o4
  have I4 := Lib.hid i4
  have X4 := Lib.hid (cc.ext X3.out (fun g hg => Nat.le_trans z1 hg))
  have O1d := Lib.hid (own_chg O1c.out cc (fun g hg hb => by have h1 := (O1.out.lt g hg).2; have h2 : w1.heap.size ≤ g := hb; omega))
  have I1d : Hid (Inner w4 w.heap.size es1) := fun x hx => own_chg (I1c.out x hx) cc (fun g hg hb => by have h1 := ((I1.out x hx).lt g hg).2; have h2 : w1.heap.size ≤ g := hb; omega)
  have hpos : (0 : Int) ≤ endE 1 es2 := by have h := (endE_le es2 HN.out 1).1; omega
  clear o4 i4 cc
  go_wp2_with fail
  refine (heldWroteS_any _ _ _ _ es2 1 _ O4.out I4.out HN.out HK.out (by omega) (by omega)).mono ?_
  rintro e w5 ⟨rfl, x5⟩
  have X5 := Lib.hid (X4.out.tr x5)
  have O1e := Lib.hid (own_ext O1d.out x5)
  have I1e := Lib.hid (I1d.out.ext x5)
  have O5 := Lib.hid (own_ext O4.out x5)
  have I5 := Lib.hid (I4.out.ext x5)
  clear x5
  go_wp2_with fail
  refine (impl_JournalReadP s HS.out _).mono ?_
  rintro e w6 ⟨B6, K6, d6, es6, at6, rfl, hes6, rfl, o6, i6, p6, x6⟩
  have KK6 := es_K o6 hes6
  obtain rfl : K6 = K2 := KK6.1.trans KK1.out.1.symm
  have E6 := Lib.hid hes6
  have O6 := Lib.hid o6
  have I6 := Lib.hid i6
  have X6 := Lib.hid (X5.out.tr x6)
  have O1f := Lib.hid (own_ext O1e.out x6)
  have I1f := Lib.hid (I1e.out.ext x6)
  have O5f := Lib.hid (own_ext O5.out x6)
  have I5f := Lib.hid (I5.out.ext x6)
  have HN6 := Lib.hid (es_n i6 hes6)
  clear KK6 hes6 o6 i6 p6 x6
  go_wp2_with fail
  refine (eqWroteS_same _ _ _ _ _ _ _ es6 es1 _ O6.out O1f.out I6.out I1f.out (E6.out.trans E1.out.symm) HN6.out HK.out).mono ?_
  rintro e w7 ⟨rfl, x7⟩
  have X7 := Lib.hid (X6.out.tr x7)
  have O7 := Lib.hid (own_ext O5f.out x7)
  have I7 := Lib.hid (I5f.out.ext x7)
  clear x7
  go_wp2_with fail
  refine (heldWroteS_any _ _ _ _ es2 1 _ O7.out I7.out HN.out HK.out (by omega) (by omega)).mono ?_
  rintro e w8 ⟨rfl, x8⟩
  have X8 := Lib.hid (X7.out.tr x8)
  clear x8
  go_wp2
  go_ret
  exact ⟨rfl, X8.out⟩
end Go.Proofs.Ytbclkgjjmpipfaa
