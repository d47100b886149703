/- ShowWrote of program and reference; the contract of laws.FnExactShowWrote. No condition. -/
import Derived.Test.YtbclkgjjmpipfaaNet
namespace Go.Proofs.Ytbclkgjjmpipfaa
open Go.RowKit Go.Deep

def showTo (b : ByteArray) (l : List Row) : Nat → ByteArray
  | 0 => b
  | k + 1 => match l[k]? with
    | some x => (showTo b l k ++ varOf x.cell) ++ varOf x.val
    | none => showTo b l k
theorem showTo_succ {b : ByteArray} {l : List Row} {k : Nat} {x : Row} (h : l[k]? = some x) : showTo b l (k + 1) = (showTo b l k ++ varOf x.cell) ++ varOf x.val := by simp [showTo, h]
theorem bytes_append (a b : ByteArray) : (a ++ b).size = a.size + b.size := by simp
theorem showTo_size (b : ByteArray) (l : List Row) (k : Nat) : (showTo b l k).size ≤ b.size + 14 * k := by
  induction k with
  | zero => simp [showTo]
  | succ k ih =>
    unfold showTo
    split
    · rename_i x _
      have h1 := varOf_size x.cell
      have h2 := varOf_size x.val
      rw [bytes_append, bytes_append]
      omega
    · omega
def showHead (f0 f1 : Int) (n : Nat) : ByteArray := (varOf f0 ++ varOf f1) ++ varOf (n : Int)
noncomputable def showOf (f0 f1 : Int) (l : List Row) : ByteArray := if wroteOk f0 f1 l = true then showTo (showHead f0 f1 l.length) l l.length else ⟨#[]⟩


set_option maxHeartbeats 8000000 in
theorem spec_ShowWrote (f0 f1 : Int) (A : Option Addr) (n c : Nat) (l : List Row) (w : World) (S : Nat → Prop) (hs : Sl w S 2 A n (l.flatMap Row.cells)) (hm : n ≤ 1048576) :
    Calls Try.prog 15 #[.agg #[.int .i64 f0, .int .i64 f1, .slice A n c]] w fun e w' => e = .returned (.string (showOf f0 f1 l)) ∧ Ext w w' := by
  have H := Lib.hid (hs.flen Row.cells_length (by omega))
  have HX0 := Lib.hid ((Ext.refl' w).al (.cells #[.int .i64 f0, .int .i64 f1, .slice A n c] 33))
  have HB0 : Hid (Bx (w.alloc (.cells #[.int .i64 f0, .int .i64 f1, .slice A n c] 33)) w.heap.size 33 #[.int .i64 f0, .int .i64 f1, .slice A n c]) := Bx.new' _ _ _ rfl
  have HS := Lib.hid hs
  cases hv : wroteOk f0 f1 l
  · have HN : Hid (showOf f0 f1 l = ⟨#[]⟩) := by unfold showOf; rw [hv]; rfl
    revert hv
    intro hv
    go_enter Try.func15, Try.ntmps15
    go_wp2_with fail
    refine (spec_l24Ok _ _ _ _ _ l _ S (hs.ext HX0.out) hm).mono ?_
    rintro e w2 ⟨rfl, x2⟩
    rw [hv]
    clear hv
    have X2 := Lib.hid (HX0.out.tr x2)
    clear x2
    go_wp2
    go_ret
    exact ⟨by rw [HN.out]; rfl, X2.out⟩

  have HY : Hid (showOf f0 f1 l = showTo (showHead f0 f1 n) l n) := by unfold showOf; rw [hv, H.out]; rfl
  have hz0 : Hid (n ≤ 300 ∧ (showHead f0 f1 n).size ≤ 21) := by
    have h1 := (dec_true (dec_true (dec_true hv).2.2).2).1
    have h2 := varOf_size f0
    have h3 := varOf_size f1
    have h4 := varOf_size (n : Int)
    exact ⟨by rw [← H.out]; exact h1, by rw [showHead, bytes_append, bytes_append]; omega⟩
  have a1 : ∀ w : World, (Op.stringOp .add (varOf f0) (varOf f1)).run Try.prog w = .ok (.string (varOf f0 ++ varOf f1)) w := fun w => run_string_add_sum w _ _ (by have h2 := varOf_size f0; have h3 := varOf_size f1; omega)
  have a2 : ∀ w : World, (Op.stringOp .add (varOf f0 ++ varOf f1) (varOf (n : Int))).run Try.prog w = .ok (.string (showHead f0 f1 n)) w := fun w => run_string_add_sum w _ _ (by have h2 := varOf_size f0; have h3 := varOf_size f1; have h4 := varOf_size (n : Int); rw [bytes_append]; omega)
  go_enter Try.func15, Try.ntmps15
  go_wp2_with fail
  refine (spec_l24Ok _ _ _ _ _ l _ S (hs.ext HX0.out) hm).mono ?_
  rintro e w2 ⟨rfl, x2⟩
  rw [hv]
  clear hv
  have HX2 := Lib.hid (HX0.out.tr x2)
  have HB2 := Lib.hid (HB0.out.ext x2)
  have q0 : w2.cell? ⟨w.heap.size, 0, none⟩ = some (.int .i64 f0) := HB2.out.cell 0
  have q1 : w2.cell? ⟨w.heap.size, 1, none⟩ = some (.int .i64 f1) := HB2.out.cell 1
  have q2 : w2.cell? ⟨w.heap.size, 2, none⟩ = some (.slice A n c) := HB2.out.cell 2
  have KS : Hid (∀ w', Ext w2 w' → Ext w2 w' ∧ w'.cell? ⟨w.heap.size, 0, none⟩ = some (.int .i64 f0) ∧ w'.cell? ⟨w.heap.size, 1, none⟩ = some (.int .i64 f1) ∧ w'.cell? ⟨w.heap.size, 2, none⟩ = some (.slice A n c)) := fun w' x => ⟨x, x.co q0, x.co q1, x.co q2⟩
  clear x2 hs
  go_wp2
  go_region_held3 (fun w' => Ext w2 w' ∧ w'.cell? ⟨w.heap.size, 0, none⟩ = some (.int .i64 f0) ∧ w'.cell? ⟨w.heap.size, 1, none⟩ = some (.int .i64 f1) ∧ w'.cell? ⟨w.heap.size, 2, none⟩ = some (.slice A n c)) (first | exact KS.out _ ((Ext.refl' _).dr) | exact KS.out _ (‹Ext w2 _ ∧ _›.1.tr xv)) (first | (go_at_call 36; refine (spec_Var _ _).mono ?_; rintro e wv ⟨rfl, xv⟩))
  all_goals
    have XE0 : Hid (Ext w2 _) := (‹Ext w2 _ ∧ _›.1)
    have qq := XE0.out.co q2
    clear a1 a2 q0 q1 q2 KS
    go_wp2
    go_loopw [3, 4] (fun s i wr => ∃ k : Nat, k ≤ n ∧ i = .int .i64 k ∧ s = .string (showTo (showHead f0 f1 n) l k) ∧ Ext w wr ∧ Hid (Bx wr w.heap.size 33 #[.int .i64 f0, .int .i64 f1, .slice A n c])) (fun _ i _ => n - (intOf i).toNat)
    case atStart => exact ⟨0, Nat.zero_le _, rfl, rfl, HX2.out.tr XE0.out, HB2.out.ext XE0.out⟩
    case round =>
      obtain ⟨k, hk, rfl, rfl, hx, hbx⟩ := hrel
      have HX := Lib.hid hx
      have hsz : w.heap.size < wr.heap.size := hbx.out.lt
      have q2 : wr.cell? ⟨w.heap.size, 2, none⟩ = some (.slice A n c) := hbx.out.cell 2
      clear hx
      by_cases hlt : k < n
      rotate_left
      · have e := Lib.hid (show k = n by omega)
        go_wp2
        go_ret
        exact ⟨by rw [HY.out]; first | rfl | (rw [e.out]; rfl) | (rw [← e.out]; rfl), HX.out⟩
      obtain ⟨b, o, rfl⟩ := HS.out.addr (by omega)
      obtain ⟨s, hsk, -, hc⟩ := (HS.out.ext HX.out).flat_cell (k := k) Row.cells_length (by omega) (by omega)
      obtain ⟨g0, g1⟩ := s
      have k0 := hc 0 (by omega)
      have k1 := hc 1 (by omega)
      simp only [Row.cells, List.getElem?_cons_zero, List.getElem?_cons_succ, Nat.add_zero] at k0 k1
      have HSK := Lib.hid hsk
      have HT : Hid (showTo (showHead f0 f1 n) l (k + 1) = (showTo (showHead f0 f1 n) l k ++ varOf g0) ++ varOf g1) := showTo_succ hsk
      have sz := Lib.hid (showTo_size (showHead f0 f1 n) l k)
      have hz := hz0.out
      have y0 := varOf_size g0
      have y1 := varOf_size g1
      generalize showTo (showHead f0 f1 n) l k = sk at HT sz
      have a3 : ∀ w : World, (Op.stringOp .add sk (varOf g0)).run Try.prog w = .ok (.string (sk ++ varOf g0)) w := fun w => run_string_add_sum w _ _ (by have := sz.out; omega)
      have a4 : ∀ w : World, (Op.stringOp .add (sk ++ varOf g0) (varOf g1)).run Try.prog w = .ok (.string ((sk ++ varOf g0) ++ varOf g1)) w := fun w => run_string_add_sum w _ _ (by have := sz.out; rw [bytes_append]; omega)
      have hb1 : (0 : Int) ≤ (k : Int) := by omega
      have hb2 : (k : Int) < (n : Int) := by omega
      have KS : Hid (∀ w', Ext wr w' → Ext wr w' ∧ w'.cell? ⟨w.heap.size, 2, none⟩ = some (.slice (some ⟨b, o, none⟩) n c) ∧ w'.cell? ⟨b, o + k * 2, none⟩ = some (.int .i64 g0) ∧ w'.cell? ⟨b, o + k * 2 + 1, none⟩ = some (.int .i64 g1)) := fun w' x => ⟨x, x.co q2, x.co k0, x.co k1⟩
      clear hsk hc hz y0 y1
      go_wp2
      go_region_held3 (fun w' => Ext wr w' ∧ w'.cell? ⟨w.heap.size, 2, none⟩ = some (.slice (some ⟨b, o, none⟩) n c) ∧ w'.cell? ⟨b, o + k * 2, none⟩ = some (.int .i64 g0) ∧ w'.cell? ⟨b, o + k * 2 + 1, none⟩ = some (.int .i64 g1)) (first | exact KS.out _ ((Ext.refl' _).dr) | exact KS.out _ (‹Ext wr _ ∧ _›.1.tr xv)) (first | (go_at_call 36; refine (spec_Var _ _).mono ?_; rintro e wv ⟨rfl, xv⟩))
      all_goals
        have XE : Hid (Ext wr _) := (‹Ext wr _ ∧ _›.1)
        go_wp2
        go_roundw
        case rel => exact ⟨k + 1, by omega, by go_num, by rw [HT.out], HX.out.tr XE.out, hbx.out.ext XE.out⟩
        case measure => simp [intOf]; omega

set_option maxHeartbeats 8000000 in
theorem impl_ShowWrote (f0 f1 : Int) (A : Option Addr) (n c : Nat) (l : List Row) (w : World) (S : Nat → Prop) (hs : Sl w S 2 A n (l.flatMap Row.cells)) (hm : n ≤ 1048576) :
    Calls Try.prog 17 #[.agg #[.int .i64 f0, .int .i64 f1, .slice A n c]] w fun e w' => e = .returned (.string (showOf f0 f1 l)) ∧ Ext w w' := by
  have H := Lib.hid (hs.flen Row.cells_length (by omega))
  have HX0 := Lib.hid ((Ext.refl' w).al (.cells #[.int .i64 f0, .int .i64 f1, .slice A n c] 33))
  have HB0 : Hid (Bx (w.alloc (.cells #[.int .i64 f0, .int .i64 f1, .slice A n c] 33)) w.heap.size 33 #[.int .i64 f0, .int .i64 f1, .slice A n c]) := Bx.new' _ _ _ rfl
  have HS := Lib.hid hs
  cases hv : wroteOk f0 f1 l
  · have HN : Hid (showOf f0 f1 l = ⟨#[]⟩) := by unfold showOf; rw [hv]; rfl
    revert hv
    intro hv
    by_cases h0 : 1 ≤ f0 ∧ f0 ≤ 1000000
    rotate_left
    · have d0 : decide (1 ≤ f0 ∧ f0 ≤ 1000000) = false := by simpa using h0
      clear h0 hv
      go_enter Try.func17, Try.ntmps17
      go_wp2_with (first | (go_at_call 46; refine (within_any _ _ _ _).mono ?_; rintro e w' ⟨rfl, rfl⟩) | (go_at_call 47; refine (isOwner_any _ _).mono ?_; rintro e w' ⟨rfl, rfl⟩))
      go_ret
      exact ⟨by rw [HN.out]; rfl, HX0.out⟩
    have d0 : decide (1 ≤ f0 ∧ f0 ≤ 1000000) = true := by simpa using h0
    by_cases h1 : 1 ≤ f1 ∧ f1 ≤ 99
    rotate_left
    · have d1 : decide (1 ≤ f1 ∧ f1 ≤ 99) = false := by simpa using h1
      clear h0 h1 hv
      go_enter Try.func17, Try.ntmps17
      go_wp2_with (first | (go_at_call 46; refine (within_any _ _ _ _).mono ?_; rintro e w' ⟨rfl, rfl⟩) | (go_at_call 47; refine (isOwner_any _ _).mono ?_; rintro e w' ⟨rfl, rfl⟩))
      go_ret
      exact ⟨by rw [HN.out]; rfl, HX0.out⟩
    have d1 : decide (1 ≤ f1 ∧ f1 ≤ 99) = true := by simpa using h1
    have hr : netOk l = false := by
      cases hr : netOk l
      · rfl
      · rw [show wroteOk f0 f1 l = true from dec_yes ⟨h0, h1, hr⟩] at hv
        exact absurd hv (by simp)
    clear h0 h1 hv
    go_enter Try.func17, Try.ntmps17
    go_wp2_with (first | (go_at_call 46; refine (within_any _ _ _ _).mono ?_; rintro e w' ⟨rfl, rfl⟩) | (go_at_call 47; refine (isOwner_any _ _).mono ?_; rintro e w' ⟨rfl, rfl⟩))
    refine (impl_isNet _ _ _ l _ S (hs.ext HX0.out) hm).mono ?_
    rintro e w2 ⟨rfl, x2⟩
    rw [hr]
    clear hr
    have X2 := Lib.hid (HX0.out.tr x2)
    clear x2
    go_wp2
    go_ret
    exact ⟨by rw [HN.out]; rfl, X2.out⟩

  have HY : Hid (showOf f0 f1 l = showTo (showHead f0 f1 n) l n) := by unfold showOf; rw [hv, H.out]; rfl
  have hz0 : Hid (n ≤ 300 ∧ (showHead f0 f1 n).size ≤ 21) := by
    have h1 := (dec_true (dec_true (dec_true hv).2.2).2).1
    have h2 := varOf_size f0
    have h3 := varOf_size f1
    have h4 := varOf_size (n : Int)
    exact ⟨by rw [← H.out]; exact h1, by rw [showHead, bytes_append, bytes_append]; omega⟩
  have a1 : ∀ w : World, (Op.stringOp .add (varOf f0) (varOf f1)).run Try.prog w = .ok (.string (varOf f0 ++ varOf f1)) w := fun w => run_string_add_sum w _ _ (by have h2 := varOf_size f0; have h3 := varOf_size f1; omega)
  have a2 : ∀ w : World, (Op.stringOp .add (varOf f0 ++ varOf f1) (varOf (n : Int))).run Try.prog w = .ok (.string (showHead f0 f1 n)) w := fun w => run_string_add_sum w _ _ (by have h2 := varOf_size f0; have h3 := varOf_size f1; have h4 := varOf_size (n : Int); rw [bytes_append]; omega)
  have hv' := dec_true hv
  have d0 : decide (1 ≤ f0 ∧ f0 ≤ 1000000) = true := by simpa using hv'.1
  have d1 : decide (1 ≤ f1 ∧ f1 ≤ 99) = true := by simpa using hv'.2.1
  have hr := hv'.2.2
  clear hv hv'
  go_enter Try.func17, Try.ntmps17
  go_wp2_with (first | (go_at_call 46; refine (within_any _ _ _ _).mono ?_; rintro e w' ⟨rfl, rfl⟩) | (go_at_call 47; refine (isOwner_any _ _).mono ?_; rintro e w' ⟨rfl, rfl⟩))
  refine (impl_isNet _ _ _ l _ S (hs.ext HX0.out) hm).mono ?_
  rintro e w2 ⟨rfl, x2⟩
  rw [hr]
  clear hr d0 d1
  have HX2 := Lib.hid (HX0.out.tr x2)
  have HB2 := Lib.hid (HB0.out.ext x2)
  have q0 : w2.cell? ⟨w.heap.size, 0, none⟩ = some (.int .i64 f0) := HB2.out.cell 0
  have q1 : w2.cell? ⟨w.heap.size, 1, none⟩ = some (.int .i64 f1) := HB2.out.cell 1
  have q2 : w2.cell? ⟨w.heap.size, 2, none⟩ = some (.slice A n c) := HB2.out.cell 2
  have KS : Hid (∀ w', Ext w2 w' → Ext w2 w' ∧ w'.cell? ⟨w.heap.size, 0, none⟩ = some (.int .i64 f0) ∧ w'.cell? ⟨w.heap.size, 1, none⟩ = some (.int .i64 f1) ∧ w'.cell? ⟨w.heap.size, 2, none⟩ = some (.slice A n c)) := fun w' x => ⟨x, x.co q0, x.co q1, x.co q2⟩
  clear x2 hs
  go_wp2
  go_region_held3 (fun w' => Ext w2 w' ∧ w'.cell? ⟨w.heap.size, 0, none⟩ = some (.int .i64 f0) ∧ w'.cell? ⟨w.heap.size, 1, none⟩ = some (.int .i64 f1) ∧ w'.cell? ⟨w.heap.size, 2, none⟩ = some (.slice A n c)) (first | exact KS.out _ ((Ext.refl' _).dr) | exact KS.out _ (‹Ext w2 _ ∧ _›.1.tr xv)) (first | (go_at_call 39; refine (impl_Var _ _).mono ?_; rintro e wv ⟨rfl, xv⟩))
  all_goals
    have XE0 : Hid (Ext w2 _) := (‹Ext w2 _ ∧ _›.1)
    have qq := XE0.out.co q2
    clear a1 a2 q0 q1 q2 KS
    go_wp2
    go_loopw [3, 37] (fun s i wr => ∃ k : Nat, k ≤ n ∧ i = .int .i64 k ∧ s = .string (showTo (showHead f0 f1 n) l k) ∧ Ext w wr ∧ Hid (Bx wr w.heap.size 33 #[.int .i64 f0, .int .i64 f1, .slice A n c])) (fun _ i _ => n - (intOf i).toNat)
    case atStart => exact ⟨0, Nat.zero_le _, rfl, rfl, HX2.out.tr XE0.out, HB2.out.ext XE0.out⟩
    case round =>
      obtain ⟨k, hk, rfl, rfl, hx, hbx⟩ := hrel
      have HX := Lib.hid hx
      have hsz : w.heap.size < wr.heap.size := hbx.out.lt
      have q2 : wr.cell? ⟨w.heap.size, 2, none⟩ = some (.slice A n c) := hbx.out.cell 2
      clear hx
      by_cases hlt : k < n
      rotate_left
      · have e := Lib.hid (show k = n by omega)
        go_wp2
        go_ret
        exact ⟨by rw [HY.out]; first | rfl | (rw [e.out]; rfl) | (rw [← e.out]; rfl), HX.out⟩
      obtain ⟨b, o, rfl⟩ := HS.out.addr (by omega)
      obtain ⟨s, hsk, -, hc⟩ := (HS.out.ext HX.out).flat_cell (k := k) Row.cells_length (by omega) (by omega)
      obtain ⟨g0, g1⟩ := s
      have k0 := hc 0 (by omega)
      have k1 := hc 1 (by omega)
      simp only [Row.cells, List.getElem?_cons_zero, List.getElem?_cons_succ, Nat.add_zero] at k0 k1
      have HSK := Lib.hid hsk
      have HT : Hid (showTo (showHead f0 f1 n) l (k + 1) = (showTo (showHead f0 f1 n) l k ++ varOf g0) ++ varOf g1) := showTo_succ hsk
      have sz := Lib.hid (showTo_size (showHead f0 f1 n) l k)
      have hz := hz0.out
      have y0 := varOf_size g0
      have y1 := varOf_size g1
      generalize showTo (showHead f0 f1 n) l k = sk at HT sz
      have a3 : ∀ w : World, (Op.stringOp .add sk (varOf g0)).run Try.prog w = .ok (.string (sk ++ varOf g0)) w := fun w => run_string_add_sum w _ _ (by have := sz.out; omega)
      have a4 : ∀ w : World, (Op.stringOp .add (sk ++ varOf g0) (varOf g1)).run Try.prog w = .ok (.string ((sk ++ varOf g0) ++ varOf g1)) w := fun w => run_string_add_sum w _ _ (by have := sz.out; rw [bytes_append]; omega)
      have hb1 : (0 : Int) ≤ (k : Int) := by omega
      have hb2 : (k : Int) < (n : Int) := by omega
      have KS : Hid (∀ w', Ext (wr.alloc (Obj.cells #[Value.int IntKind.i64 g0, Value.int IntKind.i64 g1] 62)) w' → Ext (wr.alloc (Obj.cells #[Value.int IntKind.i64 g0, Value.int IntKind.i64 g1] 62)) w' ∧ w'.cell? ⟨wr.heap.size, 0, none⟩ = some (.int .i64 g0) ∧ w'.cell? ⟨wr.heap.size, 1, none⟩ = some (.int .i64 g1)) := fun w' x => ⟨x, x.nu 0 rfl, x.nu 1 rfl⟩
      clear hsk hc hz y0 y1
      go_wp2
      go_region_held3 (fun w' => Ext (wr.alloc (Obj.cells #[Value.int IntKind.i64 g0, Value.int IntKind.i64 g1] 62)) w' ∧ w'.cell? ⟨wr.heap.size, 0, none⟩ = some (.int .i64 g0) ∧ w'.cell? ⟨wr.heap.size, 1, none⟩ = some (.int .i64 g1)) (first | exact KS.out _ ((Ext.refl' _).dr) | exact KS.out _ (‹Ext (wr.alloc (Obj.cells #[Value.int IntKind.i64 g0, Value.int IntKind.i64 g1] 62)) _ ∧ _›.1.tr xv)) (first | (go_at_call 39; refine (impl_Var _ _).mono ?_; rintro e wv ⟨rfl, xv⟩))
      all_goals
        have XE : Hid (Ext (wr.alloc (Obj.cells #[Value.int IntKind.i64 g0, Value.int IntKind.i64 g1] 62)) _) := (‹Ext (wr.alloc (Obj.cells #[Value.int IntKind.i64 g0, Value.int IntKind.i64 g1] 62)) _ ∧ _›.1)
        go_wp2
        go_roundw
        case rel => exact ⟨k + 1, by omega, by go_num, by rw [HT.out], (HX.out.al _).tr XE.out, (hbx.out.al _).ext XE.out⟩
        case measure => simp [intOf]; omega

set_option maxHeartbeats 8000000 in
theorem law_ShowWrote (f0_0 : Int) (f0_1 : Int) (A0_0 : Option Addr) (n0_0 c0_0 : Nat) (l0_0 : List Row) (w : World) (hs0_0 : Sl w (fun _ => True) 2 A0_0 n0_0 (l0_0.flatMap Row.cells)) (hm0_0 : n0_0 ≤ 9223372036854775807) :
    Calls Try.prog 5 #[.agg #[.int .i64 f0_0, .int .i64 f0_1, .slice A0_0 n0_0 c0_0]] w fun e w' => e = .returned (.bool true) ∧ Ext w w' := by
  have hsO0_0 := hs0_0
  by_cases hz0 : (n0_0 : Int) ≤ (1048576 : Int)
  rotate_left
  · go_enter Try.func5, Try.ntmps5
    go_wp2_with fail
    refine (szWrote_no _ _ _ _ _ ((1048576 : Int)) _ hm0_0 (by omega) (by omega) (by omega)).mono ?_
    rintro e w1 ⟨rfl, xw1⟩
    have ba0 : Hid (Bx w1 (w.heap.size) 28 #[.int .i64 f0_0, .int .i64 f0_1, .slice A0_0 n0_0 c0_0]) := Bx.ext (Bx.new' _ _ _ rfl) xw1
    have zw1 : w.heap.size + 1 ≤ w1.heap.size := by have h := xw1.size; (try simp at h); omega
    replace xw1 := Ext.tr ((Ext.refl' w).al _) xw1
    have xx := xw1
    replace hs0_0 := hsO0_0.ext xx
    clear xw1
    go_wp2
    go_ret
    exact ⟨rfl, xx⟩
  have hN0_0 : n0_0 ≤ 1048576 := by omega
  go_enter Try.func5, Try.ntmps5
  go_wp2_with fail
  refine (szWrote_yes _ _ _ _ _ ((1048576 : Int)) _ hm0_0 (by omega) (by omega) (by omega)).mono ?_
  rintro e w1 ⟨rfl, xw1⟩
  have ba0 : Hid (Bx w1 (w.heap.size) 28 #[.int .i64 f0_0, .int .i64 f0_1, .slice A0_0 n0_0 c0_0]) := Bx.ext (Bx.new' _ _ _ rfl) xw1
  have zw1 : w.heap.size + 1 ≤ w1.heap.size := by have h := xw1.size; (try simp at h); omega
  replace xw1 := Ext.tr ((Ext.refl' w).al _) xw1
  have xx := xw1
  replace hs0_0 := hsO0_0.ext xx
  clear xw1
  have ea0_0 : w1.cell? ⟨w.heap.size, 0, none⟩ = some (.int .i64 f0_0) := ba0.out.cell 0
  have ea0_1 : w1.cell? ⟨w.heap.size, 1, none⟩ = some (.int .i64 f0_1) := ba0.out.cell 1
  have ea0_2 : w1.cell? ⟨w.heap.size, 2, none⟩ = some (.slice A0_0 n0_0 c0_0) := ba0.out.cell 2
  go_wp2_with fail
  refine (toWrote_any _ _ _ _ _ _ _ _ hs0_0 hN0_0).mono ?_
  rintro e w2 ⟨B2_0, d2_0, rfl, o2_0, ap2, x2⟩
  clear ea0_0 ea0_1 ea0_2
  replace ba0 := Lib.hid (ba0.out.ext (Ext.tr (Ext.refl' w1) x2))
  have zw2 : w1.heap.size + 0 ≤ w2.heap.size := by have h := x2.size; (try simp at h); omega
  replace xx := xx.tr x2
  replace hs0_0 := hsO0_0.ext xx
  clear x2
  have r2_0 : Hid (∀ g, (Value.slice B2_0 n0_0 d2_0).ownBlock = some g → w1.heap.size + 0 ≤ g ∧ g < w2.heap.size) := fun g hg => by have h := o2_0.lt g hg; (try simp only [World.heap_alloc_size] at h); omega
  go_wp2_with fail
  refine (spec_ShowWrote _ _ _ _ _ _ _ _ (ownSl o2_0) hN0_0).mono ?_
  rintro e w3 ⟨rfl, x3⟩
  replace ba0 := Lib.hid (ba0.out.ext (Ext.tr (Ext.refl' w2) x3))
  have zw3 : w2.heap.size + 0 ≤ w3.heap.size := by have h := x3.size; (try simp at h); omega
  replace o2_0 := own_ext o2_0 x3
  replace xx := xx.tr x3
  replace hs0_0 := hsO0_0.ext xx
  clear x3
  clear o2_0
  have ea0_0 : w3.cell? ⟨w.heap.size, 0, none⟩ = some (.int .i64 f0_0) := ba0.out.cell 0
  have ea0_1 : w3.cell? ⟨w.heap.size, 1, none⟩ = some (.int .i64 f0_1) := ba0.out.cell 1
  have ea0_2 : w3.cell? ⟨w.heap.size, 2, none⟩ = some (.slice A0_0 n0_0 c0_0) := ba0.out.cell 2
  go_wp2_with fail
  refine (toWrote_any _ _ _ _ _ _ _ _ hs0_0 hN0_0).mono ?_
  rintro e w4 ⟨B4_0, d4_0, rfl, o4_0, ap4, x4⟩
  clear ea0_0 ea0_1 ea0_2
  replace ba0 := Lib.hid (ba0.out.ext (Ext.tr (Ext.refl' w3) x4))
  have zw4 : w3.heap.size + 0 ≤ w4.heap.size := by have h := x4.size; (try simp at h); omega
  replace xx := xx.tr x4
  replace hs0_0 := hsO0_0.ext xx
  clear x4
  have r4_0 : Hid (∀ g, (Value.slice B4_0 n0_0 d4_0).ownBlock = some g → w3.heap.size + 0 ≤ g ∧ g < w4.heap.size) := fun g hg => by have h := o4_0.lt g hg; (try simp only [World.heap_alloc_size] at h); omega
  go_wp2_with fail
  refine (impl_ShowWrote _ _ _ _ _ _ _ _ (ownSl (own_ext o4_0 ((Ext.refl' w4).al _))) hN0_0).mono ?_
  rintro e w5 ⟨rfl, x5⟩
  replace ba0 := Lib.hid (ba0.out.ext (Ext.tr ((Ext.refl' w4).al _) x5))
  have bx0 : Hid (Bx w5 (w4.heap.size) 33 #[.int .i64 f0_0, .int .i64 f0_1, .slice B4_0 n0_0 d4_0]) := Bx.ext (Bx.new' _ _ _ rfl) x5
  have zw5 : w4.heap.size + 1 ≤ w5.heap.size := by have h := x5.size; (try simp at h); omega
  replace x5 := Ext.tr ((Ext.refl' w4).al _) x5
  replace o4_0 := own_ext o4_0 x5
  replace xx := xx.tr x5
  replace hs0_0 := hsO0_0.ext xx
  clear x5
  have ex0_0 : w5.cell? ⟨w4.heap.size, 0, none⟩ = some (.int .i64 f0_0) := bx0.out.cell 0
  have ex0_1 : w5.cell? ⟨w4.heap.size, 1, none⟩ = some (.int .i64 f0_1) := bx0.out.cell 1
  have ex0_2 : w5.cell? ⟨w4.heap.size, 2, none⟩ = some (.slice B4_0 n0_0 d4_0) := bx0.out.cell 2
  have ea0_0 : w5.cell? ⟨w.heap.size, 0, none⟩ = some (.int .i64 f0_0) := ba0.out.cell 0
  have ea0_1 : w5.cell? ⟨w.heap.size, 1, none⟩ = some (.int .i64 f0_1) := ba0.out.cell 1
  have ea0_2 : w5.cell? ⟨w.heap.size, 2, none⟩ = some (.slice A0_0 n0_0 c0_0) := ba0.out.cell 2
  go_wp2_with fail
  go_region_with (first | (go_at_call 16; refine (toWrote_any _ _ _ _ _ _ _ _ (hs0_0.ext ((Ext.refl' w5).dr)) hN0_0).mono ?_; rintro e w6 ⟨B6_0, d6_0, rfl, o6_0, ap6, x6⟩; have bq : Hid (Bx w6 (w4.heap.size) 33 #[.int .i64 f0_0, .int .i64 f0_1, .slice B4_0 n0_0 d4_0]) := Bx.ext ((bx0.out.ext ((Ext.refl' w5).dr))) x6; have eq_0 : w6.cell? ⟨w4.heap.size, 0, none⟩ = some (.int .i64 f0_0) := bq.out.cell 0; have eq_1 : w6.cell? ⟨w4.heap.size, 1, none⟩ = some (.int .i64 f0_1) := bq.out.cell 1; have eq_2 : w6.cell? ⟨w4.heap.size, 2, none⟩ = some (.slice B4_0 n0_0 d4_0) := bq.out.cell 2) | (go_at_call 18; refine (eqWrote_same _ _ _ _ _ _ _ _ _ _ (ownSl (own_ext o4_0 (Ext.tr ((Ext.refl' w5).dr) x6))) (by omega) _ (ownSl o6_0)).mono ?_; rintro e w7 ⟨rfl, x7⟩))
  all_goals
    clear bq eq_0 eq_1 eq_2
    replace x7 := Ext.tr x6 x7
    clear o6_0 ap6
    clear ex0_0 ex0_1 ex0_2 ea0_0 ea0_1 ea0_2
    replace ba0 := Lib.hid (ba0.out.ext (Ext.tr ((Ext.refl' w5).dr) x7))
    replace bx0 := Lib.hid (bx0.out.ext (Ext.tr ((Ext.refl' w5).dr) x7))
    have zw7 : w5.heap.size + 0 ≤ w7.heap.size := by have h := x7.size; (try simp at h); omega
    replace x7 := Ext.tr ((Ext.refl' w5).dr) x7
    replace o4_0 := own_ext o4_0 x7
    replace xx := xx.tr x7
    replace hs0_0 := hsO0_0.ext xx
    clear x7
    go_wp2
    go_ret
    exact ⟨rfl, xx⟩
end Go.Proofs.Ytbclkgjjmpipfaa
