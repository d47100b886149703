/- FitsOrder of program and reference; the contract of laws.FnExactFitsOrder. No condition. -/
import Derived.Test.YtcnkmbofpppfaaaMayF
namespace Go.Proofs.Ytcnkmbofpppfaaa
open Go.RowKit Go.Deep

/-- The value after the first k calls of an order, if each has returned what it should. -/
def fit (l : List Call) (ord : List Int) (v : Int) : Nat → Option Int
  | 0 => some v
  | k + 1 => match fit l ord v k, ord[k]? with
    | some u, some x => match l[x.toNat]? with
      | some c => if (callDo u c.kind c.arg).2 = c.ret then some (callDo u c.kind c.arg).1 else none
      | none => none
    | _, _ => none
theorem fit_yes {l : List Call} {ord : List Int} {v u : Int} {k xn : Nat} {c : Call} (h : fit l ord v k = some u) (h1 : ord[k]? = some (xn : Int)) (h2 : l[xn]? = some c) (h3 : (callDo u c.kind c.arg).2 = c.ret) :
    fit l ord v (k + 1) = some (callDo u c.kind c.arg).1 := by
  rw [fit, h, h1]; simp [h2, h3]
theorem fit_no {l : List Call} {ord : List Int} {v u : Int} {k xn : Nat} {c : Call} (h : fit l ord v k = some u) (h1 : ord[k]? = some (xn : Int)) (h2 : l[xn]? = some c) (h3 : ¬ (callDo u c.kind c.arg).2 = c.ret) :
    fit l ord v (k + 1) = none := by
  rw [fit, h, h1]; simp [h2, h3]
theorem fit_none {l : List Call} {ord : List Int} {v : Int} {k : Nat} (h : fit l ord v k = none) : ∀ m, k ≤ m → fit l ord v m = none := by
  intro m hm
  induction m with
  | zero => rw [show k = 0 by omega] at h; exact h
  | succ m ih =>
    by_cases e : k = m + 1
    · rw [← e]; exact h
    · rw [fit, ih (by omega)]
noncomputable def fitsOk (v : Int) (l : List Call) (ord : List Int) : Bool := dec ((0 ≤ v ∧ v ≤ 65535) ∧ mayOk l ord = true ∧ fit l ord v ord.length ≠ none)
theorem mayOk_perm {l : List Call} {ord : List Int} (h : mayOk l ord = true) : ord.length = l.length ∧ permOk ord l.length = true := ⟨(dec_true h).2.1, (dec_true h).2.2.1⟩
theorem mayOk_len {l : List Call} {ord : List Int} (h : mayOk l ord = true) : l.length ≤ 7 := callsOk_len (dec_true h).1

set_option maxHeartbeats 4000000 in
theorem spec_FitsOrder (v : Int) (A : Option Addr) (n c : Nat) (l : List Call) (A2 : Option Addr) (n2 c2 : Nat) (l2 : List Int) (w : World) (S : Nat → Prop) (hs : Sl w S 5 A n (l.flatMap Call.cells)) (hm : n ≤ 1048576)
    (S2 : Nat → Prop) (hs2 : Sl w S2 1 A2 n2 (ints l2)) (hm2 : n2 ≤ 1048576) (hnc : n2 ≤ c2) :
    Calls Try.prog 22 #[.int .i64 v, .slice A n c, .slice A2 n2 c2] w fun e w' => e = .returned (.bool (fitsOk v l l2)) ∧ Ext w w' := by
  have H := Lib.hid (hs.flen Call.cells_length (by omega))
  have H2 := Lib.hid hs2.len
  have HS := Lib.hid hs
  have HS2 := Lib.hid hs2
  clear hs hs2
  by_cases hv : 0 ≤ v ∧ v ≤ 65535
  rotate_left
  · have dv : decide (0 ≤ v ∧ v ≤ 65535) = false := by simpa using hv
    have HN : Hid _ := dec_no (p := (0 ≤ v ∧ v ≤ 65535) ∧ mayOk l l2 = true ∧ fit l l2 v l2.length ≠ none) (fun h => hv h.1)
    clear hv
    go_enter Try.func22, Try.ntmps22
    go_wp2_with (go_at_call 36; refine (l3Val_any _ _).mono ?_; rintro e w' ⟨rfl, rfl⟩)
    go_ret
    exact ⟨by rw [fitsOk, HN.out]; rfl, Ext.refl' _⟩
  have dv : decide (0 ≤ v ∧ v ≤ 65535) = true := by simpa using hv
  have HV := Lib.hid hv
  clear hv
  go_enter Try.func22, Try.ntmps22
  go_wp2_with (go_at_call 36; refine (l3Val_any _ _).mono ?_; rintro e w' ⟨rfl, rfl⟩)
  refine (spec_MayFollow A n c l A2 n2 c2 l2 _ S HS.out (by omega) S2 HS2.out (by omega) hnc).mono ?_
  rintro e w1 ⟨rfl, x1⟩
  have X1 := Lib.hid x1
  clear x1 dv
  cases hok : mayOk l l2
  · have HN : Hid _ := dec_no (p := (0 ≤ v ∧ v ≤ 65535) ∧ mayOk l l2 = true ∧ fit l l2 v l2.length ≠ none) (fun h => by rw [hok] at h; exact absurd h.2.1 (by simp))
    clear hok
    go_wp2
    go_ret
    exact ⟨by rw [fitsOk, HN.out]; rfl, X1.out⟩
  have HY := Lib.hid hok
  have HP := Lib.hid (mayOk_perm hok).2
  have h7 : n ≤ 7 := by have := mayOk_len hok; rw [H.out] at this; exact this
  have hn2 : n2 = n := by have := (mayOk_perm hok).1; rw [H.out, H2.out] at this; exact this
  rw [H.out] at HP
  clear hok
  subst hn2
  go_wp2
  go_loopw [0, 7] (fun z i wr => ∃ (k : Nat) (u : Int), k ≤ n2 ∧ i = .int .i64 k ∧ z = .int .i64 u ∧ Hid (fit l l2 v k = some u) ∧ Ext w wr) (fun _ i _ => n2 - (intOf i).toNat)
  case atStart => exact ⟨0, v, Nat.zero_le _, rfl, rfl, rfl, X1.out⟩
  case round =>
    obtain ⟨k, u, hk, rfl, rfl, hf, hx⟩ := hrel
    have HX := Lib.hid hx
    by_cases hlt : k < n2
    · obtain ⟨b, o, rfl⟩ := HS.out.addr (by omega)
      obtain ⟨b2, o2, rfl⟩ := HS2.out.addr (by omega)
      obtain ⟨x, hxk, hb2, hcx⟩ := (HS2.out.ext hx).int_cell hlt
      obtain ⟨xn, rfl, hxn⟩ := perm_at HP.out hxk
      obtain ⟨sx, hsx, hb1, hcsx⟩ := (HS.out.ext hx).flat_cell (k := xn) Call.cells_length (by omega) (by omega)
      obtain ⟨f0, f1, f2, f3, f4⟩ := sx
      have k0 := hcsx 0 (by omega)
      have k1 := hcsx 1 (by omega)
      have k2 := hcsx 2 (by omega)
      have k3 := hcsx 3 (by omega)
      have k4 := hcsx 4 (by omega)
      simp only [Call.cells, List.getElem?_cons_zero, List.getElem?_cons_succ, Nat.add_zero] at k0 k1 k2 k3 k4
      have HXK := Lib.hid hxk
      have HSX := Lib.hid hsx
      have hxz : (xn : Int) < (n2 : Int) := by omega
      have hx0 : (0 : Int) ≤ (xn : Int) := by omega
      clear hxk hsx hcsx hx
      go_wp2_with fail
      refine (spec_CallDo _ _ _ _ _ _ _).mono ?_
      rintro e w2 ⟨rfl, x2⟩
      have g0 := (x2.cell (p := ⟨b2, o2 + k, none⟩) hb2).trans hcx
      have g4 := (x2.cell (p := ⟨b, o + xn * 5 + 4, none⟩) hb1).trans k4
      have X2 := Lib.hid (HX.out.tr x2)
      clear x2 hcx k0 k1 k2 k3 k4
      by_cases he : (callDo u f2 f3).2 = f4
      · have hbe : ((callDo u f2 f3).2 != f4) = false := by simp [he]
        have HF := Lib.hid (fit_yes hf.out HXK.out HSX.out he)
        clear he
        go_wp2
        go_roundw
        case rel => exact ⟨k + 1, _, by omega, by go_num, rfl, HF.out, X2.out⟩
        case measure => simp [intOf]; omega
      · have hbe : ((callDo u f2 f3).2 != f4) = true := by simp [he]
        have HF := Lib.hid (fit_none (fit_no hf.out HXK.out HSX.out he) l2.length (by rw [H2.out]; omega))
        clear he
        go_wp2
        go_ret
        exact ⟨by rw [fitsOk, dec_no fun h => h.2.2 HF.out]; rfl, X2.out⟩
    · clear hx
      go_wp2
      go_ret
      have e : k = l2.length := by rw [H2.out]; omega
      exact ⟨by rw [fitsOk, dec_yes ⟨HV.out, HY.out, by rw [← e, hf.out]; simp⟩]; rfl, HX.out⟩

set_option maxHeartbeats 4000000 in
theorem impl_FitsOrder (v : Int) (A : Option Addr) (n c : Nat) (l : List Call) (A2 : Option Addr) (n2 c2 : Nat) (l2 : List Int) (w : World) (S : Nat → Prop) (hs : Sl w S 5 A n (l.flatMap Call.cells)) (hm : n ≤ 1048576)
    (S2 : Nat → Prop) (hs2 : Sl w S2 1 A2 n2 (ints l2)) (hm2 : n2 ≤ 1048576) (hnc : n2 ≤ c2) :
    Calls Try.prog 23 #[.int .i64 v, .slice A n c, .slice A2 n2 c2] w fun e w' => e = .returned (.bool (fitsOk v l l2)) ∧ Ext w w' := by
  have H := Lib.hid (hs.flen Call.cells_length (by omega))
  have H2 := Lib.hid hs2.len
  have HS := Lib.hid hs
  have HS2 := Lib.hid hs2
  clear hs hs2
  by_cases hv : 0 ≤ v ∧ v ≤ 65535
  rotate_left
  · have dv : decide (0 ≤ v ∧ v ≤ 65535) = false := by simpa using hv
    have HN : Hid _ := dec_no (p := (0 ≤ v ∧ v ≤ 65535) ∧ mayOk l l2 = true ∧ fit l l2 v l2.length ≠ none) (fun h => hv h.1)
    clear hv
    go_enter Try.func23, Try.ntmps23
    go_wp2_with (go_at_call 37; refine (isValue_any _ _).mono ?_; rintro e w' ⟨rfl, rfl⟩)
    go_ret
    exact ⟨by rw [fitsOk, HN.out]; rfl, Ext.refl' _⟩
  have dv : decide (0 ≤ v ∧ v ≤ 65535) = true := by simpa using hv
  have HV := Lib.hid hv
  clear hv
  go_enter Try.func23, Try.ntmps23
  go_wp2_with (go_at_call 37; refine (isValue_any _ _).mono ?_; rintro e w' ⟨rfl, rfl⟩)
  refine (impl_MayFollow A n c l A2 n2 c2 l2 _ S HS.out (by omega) S2 HS2.out (by omega) hnc).mono ?_
  rintro e w1 ⟨rfl, x1⟩
  have X1 := Lib.hid x1
  clear x1 dv
  cases hok : mayOk l l2
  · have HN : Hid _ := dec_no (p := (0 ≤ v ∧ v ≤ 65535) ∧ mayOk l l2 = true ∧ fit l l2 v l2.length ≠ none) (fun h => by rw [hok] at h; exact absurd h.2.1 (by simp))
    clear hok
    go_wp2
    go_ret
    exact ⟨by rw [fitsOk, HN.out]; rfl, X1.out⟩
  have HY := Lib.hid hok
  have HP := Lib.hid (mayOk_perm hok).2
  have h7 : n ≤ 7 := by have := mayOk_len hok; rw [H.out] at this; exact this
  have hn2 : n2 = n := by have := (mayOk_perm hok).1; rw [H.out, H2.out] at this; exact this
  rw [H.out] at HP
  clear hok
  subst hn2
  go_wp2
  go_loopw [0, 22] (fun z i wr => ∃ (k : Nat) (u : Int), k ≤ n2 ∧ i = .int .i64 k ∧ z = .int .i64 u ∧ Hid (fit l l2 v k = some u) ∧ Ext w wr) (fun _ i _ => n2 - (intOf i).toNat)
  case atStart => exact ⟨0, v, Nat.zero_le _, rfl, rfl, rfl, X1.out⟩
  case round =>
    obtain ⟨k, u, hk, rfl, rfl, hf, hx⟩ := hrel
    have HX := Lib.hid hx
    by_cases hlt : k < n2
    · obtain ⟨b, o, rfl⟩ := HS.out.addr (by omega)
      obtain ⟨b2, o2, rfl⟩ := HS2.out.addr (by omega)
      obtain ⟨x, hxk, hb2, hcx⟩ := (HS2.out.ext hx).int_cell hlt
      obtain ⟨xn, rfl, hxn⟩ := perm_at HP.out hxk
      obtain ⟨sx, hsx, hb1, hcsx⟩ := (HS.out.ext hx).flat_cell (k := xn) Call.cells_length (by omega) (by omega)
      obtain ⟨f0, f1, f2, f3, f4⟩ := sx
      have k0 := hcsx 0 (by omega)
      have k1 := hcsx 1 (by omega)
      have k2 := hcsx 2 (by omega)
      have k3 := hcsx 3 (by omega)
      have k4 := hcsx 4 (by omega)
      simp only [Call.cells, List.getElem?_cons_zero, List.getElem?_cons_succ, Nat.add_zero] at k0 k1 k2 k3 k4
      have HXK := Lib.hid hxk
      have HSX := Lib.hid hsx
      have hxz : (xn : Int) < (n2 : Int) := by omega
      have hx0 : (0 : Int) ≤ (xn : Int) := by omega
      clear hxk hsx hcsx hx
      go_wp2_with fail
      refine (impl_CallDo _ _ _ _ _ _ _).mono ?_
      rintro e w2 ⟨rfl, x2⟩
      have g0 := (x2.cell (p := ⟨b2, o2 + k, none⟩) hb2).trans hcx
      have g4 := (x2.cell (p := ⟨b, o + xn * 5 + 4, none⟩) hb1).trans k4
      have X2 := Lib.hid (HX.out.tr x2)
      clear x2 hcx k0 k1 k2 k3 k4
      by_cases he : (callDo u f2 f3).2 = f4
      · have hbe : ((callDo u f2 f3).2 != f4) = false := by simp [he]
        have HF := Lib.hid (fit_yes hf.out HXK.out HSX.out he)
        clear he
        go_wp2
        go_roundw
        case rel => exact ⟨k + 1, _, by omega, by go_num, rfl, HF.out, X2.out⟩
        case measure => simp [intOf]; omega
      · have hbe : ((callDo u f2 f3).2 != f4) = true := by simp [he]
        have HF := Lib.hid (fit_none (fit_no hf.out HXK.out HSX.out he) l2.length (by rw [H2.out]; omega))
        clear he
        go_wp2
        go_ret
        exact ⟨by rw [fitsOk, dec_no fun h => h.2.2 HF.out]; rfl, X2.out⟩
    · clear hx
      go_wp2
      go_ret
      have e : k = l2.length := by rw [H2.out]; omega
      exact ⟨by rw [fitsOk, dec_yes ⟨HV.out, HY.out, by rw [← e, hf.out]; simp⟩]; rfl, HX.out⟩

set_option maxHeartbeats 4000000 in
theorem law_FitsOrder (y0 : Int) (A1 : Option Addr) (n1 c1 : Nat) (l1 : List Call) (A2 : Option Addr) (n2 c2 : Nat) (l2 : List Int) (w : World) (hs1 : Sl w (fun _ => True) 5 A1 n1 (l1.flatMap Call.cells)) (hm1 : n1 ≤ 9223372036854775807) (hs2 : Sl w (fun _ => True) 1 A2 n2 (ints l2)) (hm2 : n2 ≤ 9223372036854775807) :
    Calls Try.prog 6 #[.int .i64 y0, .slice A1 n1 c1, .slice A2 n2 c2] w fun e w' => e = .returned (.bool true) ∧ Ext w w' := by
  by_cases hn2 : n2 ≤ 1048576
  rotate_left
  · go_enter Try.func6, Try.ntmps6
    go_wp2
    go_ret
    exact ⟨rfl, Ext.refl' _⟩
  by_cases hn1 : (n1 : Int) ≤ (1048576 : Int)
  rotate_left
  · go_enter Try.func6, Try.ntmps6
    go_wp2_with fail
    refine (szCallS_any _ _ _ _ _ (by omega) (by omega) hm1).mono ?_
    rintro e w' ⟨rfl, rfl⟩
    rw [if_neg (by omega)]
    go_wp2
    go_ret
    exact ⟨rfl, Ext.refl' _⟩
  have hN1 : n1 ≤ 1048576 := by omega
  have hN2 : n2 ≤ 1048576 := by omega
  go_enter Try.func6, Try.ntmps6
  go_wp2_with fail
  refine (szCallS_any _ _ _ _ _ (by omega) (by omega) hm1).mono ?_
  rintro e w' ⟨rfl, rfl⟩
  rw [if_pos (by omega)]
  go_wp2_with fail
  refine (toCallS_any _ _ _ _ _ _ hs1 hN1).mono ?_
  rintro e w1 ⟨B1, d1, rfl, o1, x1⟩
  replace hs1 := hs1.ext x1
  replace hs2 := hs2.ext x1
  have xx := x1
  have z1 : w.heap.size ≤ w1.heap.size := x1.size
  have r1 := Lib.hid o1.lt
  go_wp2_with fail
  refine (toIntS_any _ _ _ _ _ _ hs2 hN2).mono ?_
  rintro e w2 ⟨B2, d2, rfl, o2, x2⟩
  replace o1 := own_ext o1 x2
  replace hs1 := hs1.ext x2
  replace hs2 := hs2.ext x2
  replace xx := xx.tr x2
  have z2 : w1.heap.size ≤ w2.heap.size := x2.size
  have r2 := Lib.hid o2.lt
  go_wp2_with fail
  refine (spec_FitsOrder _ _ _ _ _ _ _ _ _ _ _ (ownSl o1) hN1 _ (ownSl o2) hN2 (own_cap o2)).mono ?_
  rintro e w3 ⟨rfl, x3⟩
  replace o1 := own_ext o1 x3
  replace o2 := own_ext o2 x3
  replace hs1 := hs1.ext x3
  replace hs2 := hs2.ext x3
  replace xx := xx.tr x3
  have z3 : w2.heap.size ≤ w3.heap.size := x3.size
  go_wp2_with fail
  refine (toCallS_any _ _ _ _ _ _ hs1 hN1).mono ?_
  rintro e w4 ⟨B4, d4, rfl, o4, x4⟩
  replace hs1 := hs1.ext x4
  replace hs2 := hs2.ext x4
  replace xx := xx.tr x4
  have z4 : w3.heap.size ≤ w4.heap.size := x4.size
  have r4 := Lib.hid o4.lt
  go_wp2_with fail
  refine (toIntS_any _ _ _ _ _ _ hs2 hN2).mono ?_
  rintro e w5 ⟨B5, d5, rfl, o5, x5⟩
  replace o4 := own_ext o4 x5
  replace hs1 := hs1.ext x5
  replace hs2 := hs2.ext x5
  replace xx := xx.tr x5
  have z5 : w4.heap.size ≤ w5.heap.size := x5.size
  have r5 := Lib.hid o5.lt
  go_wp2_with fail
  refine (impl_FitsOrder _ _ _ _ _ _ _ _ _ _ _ (ownSl o4) hN1 _ (ownSl o5) hN2 (own_cap o5)).mono ?_
  rintro e w6 ⟨rfl, x6⟩
  replace o4 := own_ext o4 x6
  replace o5 := own_ext o5 x6
  replace hs1 := hs1.ext x6
  replace hs2 := hs2.ext x6
  replace xx := xx.tr x6
  have z6 : w5.heap.size ≤ w6.heap.size := x6.size
  go_wp2_with fail
  refine (toCallS_any _ _ _ _ _ _ hs1 hN1).mono ?_
  rintro e w7 ⟨B7, d7, rfl, o7, x7⟩
  replace o4 := own_ext o4 x7
  replace o5 := own_ext o5 x7
  replace hs1 := hs1.ext x7
  replace hs2 := hs2.ext x7
  replace xx := xx.tr x7
  have z7 : w6.heap.size ≤ w7.heap.size := x7.size
  have r7 := Lib.hid o7.lt
  go_wp2_with fail
  refine (eqCallS_same _ _ _ _ _ _ _ _ _ (ownSl o4) (ownSl o7) (by omega)).mono ?_
  rintro e w8 ⟨rfl, x8⟩
  replace o4 := own_ext o4 x8
  replace o5 := own_ext o5 x8
  replace o7 := own_ext o7 x8
  replace hs1 := hs1.ext x8
  replace hs2 := hs2.ext x8
  replace xx := xx.tr x8
  have z8 : w7.heap.size ≤ w8.heap.size := x8.size
  go_wp2_with fail
  refine (toIntS_any _ _ _ _ _ _ hs2 hN2).mono ?_
  rintro e w9 ⟨B9, d9, rfl, o9, x9⟩
  replace o4 := own_ext o4 x9
  replace o5 := own_ext o5 x9
  replace hs1 := hs1.ext x9
  replace hs2 := hs2.ext x9
  replace xx := xx.tr x9
  have z9 : w8.heap.size ≤ w9.heap.size := x9.size
  have r9 := Lib.hid o9.lt
  go_wp2_with fail
  refine (eqIntS_same _ _ _ _ _ _ _ _ _ (ownSl o5) (ownSl o9) (by omega)).mono ?_
  rintro e w10 ⟨rfl, x10⟩
  replace o4 := own_ext o4 x10
  replace o5 := own_ext o5 x10
  replace o9 := own_ext o9 x10
  replace hs1 := hs1.ext x10
  replace hs2 := hs2.ext x10
  replace xx := xx.tr x10
  have z10 : w9.heap.size ≤ w10.heap.size := x10.size
  go_wp2
  go_ret
  exact ⟨rfl, xx⟩
end Go.Proofs.Ytcnkmbofpppfaaa
