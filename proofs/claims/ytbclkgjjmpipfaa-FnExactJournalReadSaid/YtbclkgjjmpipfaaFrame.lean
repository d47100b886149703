/- Frame of program and reference; the contract of laws.FnExactFrame. No condition. -/
import Derived.Test.YtbclkgjjmpipfaaVar
import Derived.Test.YtbclkgjjmpipfaaCrc
import Derived.Test.YtbclkgjjmpipfaaFixed
namespace Go.Proofs.Ytbclkgjjmpipfaa
open Go.RowKit

def frameBody (s : ByteArray) : ByteArray := varOf (s.size : Int) ++ s
def frameOf (s : ByteArray) : ByteArray := if s.size ≤ 120 then fixed4 (4294967295 - crcOf (frameBody s).data.toList) ++ frameBody s else ⟨#[]⟩
theorem size_append (a b : ByteArray) : (a ++ b).size = a.size + b.size := by simp
theorem fixed4_size (c : Nat) : (fixed4 c).size = 4 := rfl

set_option maxHeartbeats 1000000 in
theorem impl_Frame (s : ByteArray) (w : World) :
    Calls Try.prog 11 #[.string s] w fun e w' => e = .returned (.string (frameOf s)) ∧ Ext w w' := by
  by_cases h : s.size ≤ 120
  rotate_left
  · have HN : Hid (frameOf s = ⟨#[]⟩) := by unfold frameOf; rw [if_neg h]; rfl
    have h' : ¬ (s.size : Int) ≤ 120 := by omega
    clear h
    go_enter Try.func11, Try.ntmps11
    go_wp2
    go_ret
    exact ⟨by rw [HN.out]; rfl, Ext.refl' _⟩
  have HN : Hid (frameOf s = fixed4 (4294967295 - crcOf (frameBody s).data.toList) ++ frameBody s) := by unfold frameOf; rw [if_pos h]; rfl
  have hv := varOf_size (s.size : Int)
  have hsum : (varOf (s.size : Int)).size + s.size ≤ 9223372036854775807 := by omega
  have hadd : ∀ w : World, (Op.stringOp .add (varOf (s.size : Int)) s).run Try.prog w = .ok (.string (frameBody s)) w := fun w => run_string_add_sum w _ _ hsum
  have hbs := Lib.hid (show (frameBody s).size ≤ 127 by rw [frameBody, size_append]; omega)
  have h' : (s.size : Int) ≤ 120 := by omega
  clear h hv hsum
  go_enter Try.func11, Try.ntmps11
  go_wp2_with fail
  refine (impl_Var _ _).mono ?_
  rintro e w1 ⟨rfl, x1⟩
  go_wp2_with fail
  clear hadd h'
  have hb := crc_lt (frameBody s).data.toList
  refine (impl_Crc _ (by have := hbs.out; omega) _).mono ?_
  rintro e w2 ⟨rfl, rfl⟩
  rw [show (4294967295 - (crcOf (frameBody s).data.toList : Nat) : Int) = ((4294967295 - crcOf (frameBody s).data.toList : Nat) : Int) by omega]
  go_wp2_with fail
  refine (impl_Fixed4 _ (by omega) _).mono ?_
  rintro e w3 ⟨rfl, x3⟩
  have hadd : ∀ w : World, (Op.stringOp .add (fixed4 (4294967295 - crcOf (frameBody s).data.toList)) (frameBody s)).run Try.prog w = .ok (.string (fixed4 (4294967295 - crcOf (frameBody s).data.toList) ++ frameBody s)) w := fun w => run_string_add_sum w _ _ (by rw [fixed4_size]; have := hbs.out; omega)
  have X := Lib.hid (x1.tr x3)
  clear x1 x3 hb
  go_wp2
  go_ret
  exact ⟨by rw [HN.out]; rfl, X.out⟩

set_option maxHeartbeats 1000000 in
theorem spec_Frame (s : ByteArray) (w : World) :
    Calls Try.prog 10 #[.string s] w fun e w' => e = .returned (.string (frameOf s)) ∧ Ext w w' := by
  by_cases h : s.size ≤ 120
  rotate_left
  · have HN : Hid (frameOf s = ⟨#[]⟩) := by unfold frameOf; rw [if_neg h]; rfl
    have h' : ¬ (s.size : Int) ≤ 120 := by omega
    clear h
    go_enter Try.func10, Try.ntmps10
    go_wp2
    go_ret
    exact ⟨by rw [HN.out]; rfl, Ext.refl' _⟩
  have HN : Hid (frameOf s = fixed4 (4294967295 - crcOf (frameBody s).data.toList) ++ frameBody s) := by unfold frameOf; rw [if_pos h]; rfl
  have hv := varOf_size (s.size : Int)
  have hsum : (varOf (s.size : Int)).size + s.size ≤ 9223372036854775807 := by omega
  have hadd : ∀ w : World, (Op.stringOp .add (varOf (s.size : Int)) s).run Try.prog w = .ok (.string (frameBody s)) w := fun w => run_string_add_sum w _ _ hsum
  have hbs := Lib.hid (show (frameBody s).size ≤ 127 by rw [frameBody, size_append]; omega)
  have h' : (s.size : Int) ≤ 120 := by omega
  clear h hv hsum
  go_enter Try.func10, Try.ntmps10
  go_wp2_with fail
  refine (spec_Var _ _).mono ?_
  rintro e w1 ⟨rfl, x1⟩
  go_wp2_with fail
  clear hadd h'
  have hb := crc_lt (frameBody s).data.toList
  refine (spec_Crc _ (by have := hbs.out; omega) _).mono ?_
  rintro e w2 ⟨rfl, rfl⟩
  rw [show (4294967295 - (crcOf (frameBody s).data.toList : Nat) : Int) = ((4294967295 - crcOf (frameBody s).data.toList : Nat) : Int) by omega]
  go_wp2_with fail
  refine (spec_Fixed4 _ (by omega) _).mono ?_
  rintro e w3 ⟨rfl, x3⟩
  have hadd : ∀ w : World, (Op.stringOp .add (fixed4 (4294967295 - crcOf (frameBody s).data.toList)) (frameBody s)).run Try.prog w = .ok (.string (fixed4 (4294967295 - crcOf (frameBody s).data.toList) ++ frameBody s)) w := fun w => run_string_add_sum w _ _ (by rw [fixed4_size]; have := hbs.out; omega)
  have X := Lib.hid (x1.tr x3)
  clear x1 x3 hb
  go_wp2
  go_ret
  exact ⟨by rw [HN.out]; rfl, X.out⟩

set_option maxHeartbeats 1000000 in
theorem law_Frame (s : ByteArray) (w : World) :
    Calls Try.prog 3 #[.string s] w fun e w' => e = .returned (.bool true) ∧ Ext w w' := by
  by_cases h : (s.size : Int) ≤ 1048576
  rotate_left
  · go_enter Try.func3, Try.ntmps3
    go_wp2
    go_ret
    exact ⟨rfl, Ext.refl' _⟩
  go_enter Try.func3, Try.ntmps3
  go_wp2_with fail
  refine (spec_Frame s _).mono ?_
  rintro e w1 ⟨rfl, x1⟩
  go_wp2_with fail
  refine (impl_Frame s _).mono ?_
  rintro e w2 ⟨rfl, x2⟩
  replace x2 := x1.tr x2
  clear x1
  go_wp2
  go_ret
  exact ⟨rfl, x2⟩
end Go.Proofs.Ytbclkgjjmpipfaa
