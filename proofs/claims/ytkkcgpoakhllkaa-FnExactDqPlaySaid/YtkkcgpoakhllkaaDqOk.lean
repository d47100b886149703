/- DqOk of program and reference; the contract of laws.FnExactDqOk. No condition. -/
import Derived.Test.YtkkcgpoakhllkaaDequeT
import Derived.Test.YtkkcgpoakhllkaaIn
namespace Go.Proofs.Ytkkcgpoakhllkaa
open Go.RowKit Go.Deep


set_option maxHeartbeats 1000000 in
theorem spec_DqOk (t : Int) (A : Option Addr) (n c : Nat) (l : List DqAct) (w : World) (S : Nat → Prop) (hs : Sl w S 2 A n (l.flatMap DqAct.cells)) (hm : n ≤ 1048576) :
    Calls Try.prog 9 #[.int .i64 t, .slice A n c] w fun e w' => e = .returned (.bool (dec ((0 ≤ t ∧ t ≤ 3) ∧ l.length ≤ 300))) ∧ Ext w w' := by
  have H := Lib.hid (hs.flen DqAct.cells_length (by omega))
  clear hs
  by_cases h0 : 0 ≤ t ∧ t ≤ 3
  rotate_left
  · have d0 : decide (0 ≤ t ∧ t ≤ 3) = false := by simpa using h0
    go_enter Try.func9, Try.ntmps9
    go_wp2_with (go_at_call 30; refine (l1In_any _ _ _ _).mono ?_; rintro e w' ⟨rfl, rfl⟩)
    go_ret
    exact ⟨by rw [dec_no fun h => h0 h.1]; rfl, Ext.refl' _⟩
  have d0 : decide (0 ≤ t ∧ t ≤ 3) = true := by simpa using h0
  by_cases h1 : n ≤ 300
  · have h1' : (n : Int) ≤ 300 := by omega
    go_enter Try.func9, Try.ntmps9
    go_wp2_with (go_at_call 30; refine (l1In_any _ _ _ _).mono ?_; rintro e w' ⟨rfl, rfl⟩)
    go_ret
    exact ⟨by rw [dec_yes ⟨h0, by rw [H.out]; exact h1⟩]; simp, Ext.refl' _⟩
  · have h1' : ¬ (n : Int) ≤ 300 := by omega
    go_enter Try.func9, Try.ntmps9
    go_wp2_with (go_at_call 30; refine (l1In_any _ _ _ _).mono ?_; rintro e w' ⟨rfl, rfl⟩)
    go_ret
    exact ⟨by rw [dec_no fun h => h1 (by rw [← H.out]; exact h.2)]; simp; omega, Ext.refl' _⟩

set_option maxHeartbeats 1000000 in
theorem impl_DqOk (t : Int) (A : Option Addr) (n c : Nat) (l : List DqAct) (w : World) (S : Nat → Prop) (hs : Sl w S 2 A n (l.flatMap DqAct.cells)) (hm : n ≤ 1048576) :
    Calls Try.prog 11 #[.int .i64 t, .slice A n c] w fun e w' => e = .returned (.bool (dec ((0 ≤ t ∧ t ≤ 3) ∧ l.length ≤ 300))) ∧ Ext w w' := by
  have H := Lib.hid (hs.flen DqAct.cells_length (by omega))
  clear hs
  by_cases h0 : 0 ≤ t ∧ t ≤ 3
  rotate_left
  · have d0 : decide (0 ≤ t ∧ t ≤ 3) = false := by simpa using h0
    go_enter Try.func11, Try.ntmps11
    go_wp2_with (go_at_call 32; refine (within_any _ _ _ _).mono ?_; rintro e w' ⟨rfl, rfl⟩)
    go_ret
    exact ⟨by rw [dec_no fun h => h0 h.1]; rfl, Ext.refl' _⟩
  have d0 : decide (0 ≤ t ∧ t ≤ 3) = true := by simpa using h0
  by_cases h1 : n ≤ 300
  · have h1' : (n : Int) ≤ 300 := by omega
    go_enter Try.func11, Try.ntmps11
    go_wp2_with (go_at_call 32; refine (within_any _ _ _ _).mono ?_; rintro e w' ⟨rfl, rfl⟩)
    go_ret
    exact ⟨by rw [dec_yes ⟨h0, by rw [H.out]; exact h1⟩]; simp, Ext.refl' _⟩
  · have h1' : ¬ (n : Int) ≤ 300 := by omega
    go_enter Try.func11, Try.ntmps11
    go_wp2_with (go_at_call 32; refine (within_any _ _ _ _).mono ?_; rintro e w' ⟨rfl, rfl⟩)
    go_ret
    exact ⟨by rw [dec_no fun h => h1 (by rw [← H.out]; exact h.2)]; simp; omega, Ext.refl' _⟩

set_option maxHeartbeats 8000000 in
theorem law_DqOk (y0 : Int) (A1 : Option Addr) (n1 c1 : Nat) (l1 : List DqAct) (w : World) (hs1 : Sl w (fun _ => True) 2 A1 n1 (l1.flatMap DqAct.cells)) (hm1 : n1 ≤ 9223372036854775807) :
    Calls Try.prog 3 #[.int .i64 y0, .slice A1 n1 c1] w fun e w' => e = .returned (.bool true) ∧ Ext w w' := by
  have hsO1 := hs1
  by_cases hz0 : (n1 : Int) ≤ (1048576 : Int)
  rotate_left
  · go_enter Try.func3, Try.ntmps3
    go_wp2_with fail
    refine (szDqActS_any _ _ _ ((1048576 : Int)) _ (by omega) (by omega) hm1).mono ?_
    rintro e w' ⟨rfl, rfl⟩
    rw [if_neg (by omega)]
    go_wp2
    go_ret
    exact ⟨rfl, (Ext.refl' w)⟩
  have hN1 : n1 ≤ 1048576 := by omega
  go_enter Try.func3, Try.ntmps3
  go_wp2_with fail
  refine (szDqActS_any _ _ _ ((1048576 : Int)) _ (by omega) (by omega) hm1).mono ?_
  rintro e w' ⟨rfl, rfl⟩
  rw [if_pos (by omega)]
  go_wp2_with fail
  refine (toDqActS_any _ _ _ _ _ _ hs1 hN1).mono ?_
  rintro e w1 ⟨B1_0, d1_0, rfl, o1_0, x1⟩
  have zw1 : w.heap.size + 0 ≤ w1.heap.size := by have h := x1.size; (try simp at h); omega
  have xx := x1
  replace hs1 := hsO1.ext xx
  clear x1
  have r1_0 : Hid (∀ g, (Value.slice B1_0 n1 d1_0).ownBlock = some g → w.heap.size + 0 ≤ g ∧ g < w1.heap.size) := fun g hg => by have h := o1_0.lt g hg; (try simp only [World.heap_alloc_size] at h); omega
  go_wp2_with fail
  refine (spec_DqOk _ _ _ _ _ _ _ (ownSl o1_0) hN1).mono ?_
  rintro e w2 ⟨rfl, x2⟩
  have zw2 : w1.heap.size + 0 ≤ w2.heap.size := by have h := x2.size; (try simp at h); omega
  replace o1_0 := own_ext o1_0 x2
  replace xx := xx.tr x2
  replace hs1 := hsO1.ext xx
  clear x2
  clear o1_0
  go_wp2_with fail
  refine (toDqActS_any _ _ _ _ _ _ hs1 hN1).mono ?_
  rintro e w3 ⟨B3_0, d3_0, rfl, o3_0, x3⟩
  have zw3 : w2.heap.size + 0 ≤ w3.heap.size := by have h := x3.size; (try simp at h); omega
  replace xx := xx.tr x3
  replace hs1 := hsO1.ext xx
  clear x3
  have r3_0 : Hid (∀ g, (Value.slice B3_0 n1 d3_0).ownBlock = some g → w2.heap.size + 0 ≤ g ∧ g < w3.heap.size) := fun g hg => by have h := o3_0.lt g hg; (try simp only [World.heap_alloc_size] at h); omega
  go_wp2_with fail
  refine (impl_DqOk _ _ _ _ _ _ _ (ownSl o3_0) hN1).mono ?_
  rintro e w4 ⟨rfl, x4⟩
  have zw4 : w3.heap.size + 0 ≤ w4.heap.size := by have h := x4.size; (try simp at h); omega
  replace o3_0 := own_ext o3_0 x4
  replace xx := xx.tr x4
  replace hs1 := hsO1.ext xx
  clear x4
  go_wp2_with fail
  refine (toDqActS_any _ _ _ _ _ _ hs1 hN1).mono ?_
  rintro e w5 ⟨B5_0, d5_0, rfl, o5_0, x5⟩
  have zw5 : w4.heap.size + 0 ≤ w5.heap.size := by have h := x5.size; (try simp at h); omega
  replace o3_0 := own_ext o3_0 x5
  replace xx := xx.tr x5
  replace hs1 := hsO1.ext xx
  clear x5
  have r5_0 : Hid (∀ g, (Value.slice B5_0 n1 d5_0).ownBlock = some g → w4.heap.size + 0 ≤ g ∧ g < w5.heap.size) := fun g hg => by have h := o5_0.lt g hg; (try simp only [World.heap_alloc_size] at h); omega
  go_wp2_with fail
  refine (eqDqActS_same _ _ _ _ _ _ _ _ _ (ownSl o3_0) (ownSl o5_0) (by omega)).mono ?_
  rintro e w6 ⟨rfl, x6⟩
  have zw6 : w5.heap.size + 0 ≤ w6.heap.size := by have h := x6.size; (try simp at h); omega
  replace o3_0 := own_ext o3_0 x6
  replace o5_0 := own_ext o5_0 x6
  replace xx := xx.tr x6
  replace hs1 := hsO1.ext xx
  clear x6
  clear o5_0
  go_wp2
  go_ret
  exact ⟨rfl, xx⟩

end Go.Proofs.Ytkkcgpoakhllkaa
