/- l3Val, isValue, CallDo, CallsOk of program and reference; the contracts of laws.FnExactCallDo and laws.FnExactCallsOk. No condition. -/
import Derived.Test.YtcnkmbofpppfaaaLineT
import Derived.Test.YtcnkmbofpppfaaaIn
namespace Go.Proofs.Ytcnkmbofpppfaaa
open Go.RowKit Go.Deep

theorem l3Val_any (x : Int) (w : World) :
    Calls Try.prog 36 #[.int .i64 x] w fun e w' => e = .returned (.bool (decide (0 ≤ x ∧ x ≤ 65535))) ∧ w = w' := by
  go_enter Try.func36, Try.ntmps36
  go_wp2_with (go_at_call 38; refine (l1In_any _ _ _ _).mono ?_; rintro e w' ⟨rfl, rfl⟩)
  go_ret
  simp
theorem isValue_any (x : Int) (w : World) :
    Calls Try.prog 37 #[.int .i64 x] w fun e w' => e = .returned (.bool (decide (0 ≤ x ∧ x ≤ 65535))) ∧ w = w' := by
  go_enter Try.func37, Try.ntmps37
  go_wp2_with (go_at_call 39; refine (within_any _ _ _ _).mono ?_; rintro e w' ⟨rfl, rfl⟩)
  go_ret
  simp

def isVal (x : Int) : Prop := 0 ≤ x ∧ x ≤ 65535
/-- What a call does to a value: the next value, what it returns. -/
def callDo (v k a : Int) : Int × Int :=
  if ¬ (0 ≤ v ∧ v ≤ 65535) ∨ ¬ (0 ≤ a ∧ a ≤ 65535) then (v, 0) else
  if k = 1 then (a, 0) else if k = 2 then (v, v) else if k = 3 then ((v + a) % 65536, v) else if k = 4 then (a, v) else (v, 0)
theorem callDo_v {v k a : Int} (h : ¬ (0 ≤ v ∧ v ≤ 65535)) : callDo v k a = (v, 0) := if_pos (.inl h)
theorem callDo_a {v k a : Int} (h : ¬ (0 ≤ a ∧ a ≤ 65535)) : callDo v k a = (v, 0) := if_pos (.inr h)
theorem callDo_k {v k a : Int} (h : 0 ≤ v ∧ v ≤ 65535) (h2 : 0 ≤ a ∧ a ≤ 65535) : callDo v k a = if k = 1 then (a, 0) else if k = 2 then (v, v) else if k = 3 then ((v + a) % 65536, v) else if k = 4 then (a, v) else (v, 0) :=
  if_neg (by rintro (q | q); exact q h; exact q h2)


set_option maxHeartbeats 2000000 in
theorem spec_CallDo (v f0 f1 f2 f3 f4 : Int) (w : World) :
    Calls Try.prog 10 #[.int .i64 v, .agg #[.int .i64 f0, .int .i64 f1, .int .i64 f2, .int .i64 f3, .int .i64 f4]] w fun e w' => e = .returned (.tuple #[.int .i64 (callDo v f2 f3).1, .int .i64 (callDo v f2 f3).2]) ∧ Ext w w' := by
  by_cases hv : 0 ≤ v ∧ v ≤ 65535
  rotate_left
  · have dv : decide (0 ≤ v ∧ v ≤ 65535) = false := by simpa using hv
    rw [callDo_v hv]
    clear hv
    go_enter Try.func10, Try.ntmps10
    go_wp2_with (go_at_call 36; refine (l3Val_any _ _).mono ?_; rintro e w' ⟨rfl, rfl⟩)
    go_ret2
    exact ⟨rfl, (Ext.refl' w).al _⟩
  have dv : decide (0 ≤ v ∧ v ≤ 65535) = true := by simpa using hv
  by_cases ha : 0 ≤ f3 ∧ f3 ≤ 65535
  rotate_left
  · have da : decide (0 ≤ f3 ∧ f3 ≤ 65535) = false := by simpa using ha
    rw [callDo_a ha]
    clear ha
    go_enter Try.func10, Try.ntmps10
    go_wp2_with (go_at_call 36; refine (l3Val_any _ _).mono ?_; rintro e w' ⟨rfl, rfl⟩)
    go_ret2
    exact ⟨rfl, (Ext.refl' w).al _⟩
  have da : decide (0 ≤ f3 ∧ f3 ≤ 65535) = true := by simpa using ha
  rw [callDo_k hv ha]
  by_cases h1 : f2 = 1
  · have b1 : (f2 == 1) = true := by simp [h1]
    subst h1
    go_enter Try.func10, Try.ntmps10
    go_wp2_with (go_at_call 36; refine (l3Val_any _ _).mono ?_; rintro e w' ⟨rfl, rfl⟩)
    go_ret2
    exact ⟨rfl, (Ext.refl' w).al _⟩
  have b1 : (f2 == 1) = false := by simp [h1]
  by_cases h2 : f2 = 2
  · have b2 : (f2 == 2) = true := by simp [h2]
    subst h2
    go_enter Try.func10, Try.ntmps10
    go_wp2_with (go_at_call 36; refine (l3Val_any _ _).mono ?_; rintro e w' ⟨rfl, rfl⟩)
    go_ret2
    exact ⟨rfl, (Ext.refl' w).al _⟩
  have b2 : (f2 == 2) = false := by simp [h2]
  by_cases h3 : f2 = 3
  · have b3 : (f2 == 3) = true := by simp [h3]
    subst h3
    go_enter Try.func10, Try.ntmps10
    go_wp2_with (go_at_call 36; refine (l3Val_any _ _).mono ?_; rintro e w' ⟨rfl, rfl⟩)
    go_ret2
    exact ⟨rfl, (Ext.refl' w).al _⟩
  have b3 : (f2 == 3) = false := by simp [h3]
  by_cases h4 : f2 = 4
  · have b4 : (f2 == 4) = true := by simp [h4]
    subst h4
    go_enter Try.func10, Try.ntmps10
    go_wp2_with (go_at_call 36; refine (l3Val_any _ _).mono ?_; rintro e w' ⟨rfl, rfl⟩)
    go_ret2
    exact ⟨rfl, (Ext.refl' w).al _⟩
  have b4 : (f2 == 4) = false := by simp [h4]
  rw [if_neg h1, if_neg h2, if_neg h3, if_neg h4]
  go_enter Try.func10, Try.ntmps10
  go_wp2_with (go_at_call 36; refine (l3Val_any _ _).mono ?_; rintro e w' ⟨rfl, rfl⟩)
  go_ret2
  exact ⟨rfl, (Ext.refl' w).al _⟩

set_option maxHeartbeats 2000000 in
theorem impl_CallDo (v f0 f1 f2 f3 f4 : Int) (w : World) :
    Calls Try.prog 12 #[.int .i64 v, .agg #[.int .i64 f0, .int .i64 f1, .int .i64 f2, .int .i64 f3, .int .i64 f4]] w fun e w' => e = .returned (.tuple #[.int .i64 (callDo v f2 f3).1, .int .i64 (callDo v f2 f3).2]) ∧ Ext w w' := by
  by_cases hv : 0 ≤ v ∧ v ≤ 65535
  rotate_left
  · have dv : decide (0 ≤ v ∧ v ≤ 65535) = false := by simpa using hv
    rw [callDo_v hv]
    clear hv
    go_enter Try.func12, Try.ntmps12
    go_wp2_with (go_at_call 37; refine (isValue_any _ _).mono ?_; rintro e w' ⟨rfl, rfl⟩)
    go_ret2
    exact ⟨rfl, (Ext.refl' w).al _⟩
  have dv : decide (0 ≤ v ∧ v ≤ 65535) = true := by simpa using hv
  by_cases ha : 0 ≤ f3 ∧ f3 ≤ 65535
  rotate_left
  · have da : decide (0 ≤ f3 ∧ f3 ≤ 65535) = false := by simpa using ha
    rw [callDo_a ha]
    clear ha
    go_enter Try.func12, Try.ntmps12
    go_wp2_with (go_at_call 37; refine (isValue_any _ _).mono ?_; rintro e w' ⟨rfl, rfl⟩)
    go_ret2
    exact ⟨rfl, (Ext.refl' w).al _⟩
  have da : decide (0 ≤ f3 ∧ f3 ≤ 65535) = true := by simpa using ha
  rw [callDo_k hv ha]
  by_cases h1 : f2 = 1
  · have b1 : (f2 == 1) = true := by simp [h1]
    subst h1
    go_enter Try.func12, Try.ntmps12
    go_wp2_with (go_at_call 37; refine (isValue_any _ _).mono ?_; rintro e w' ⟨rfl, rfl⟩)
    go_ret2
    exact ⟨rfl, (Ext.refl' w).al _⟩
  have b1 : (f2 == 1) = false := by simp [h1]
  by_cases h2 : f2 = 2
  · have b2 : (f2 == 2) = true := by simp [h2]
    subst h2
    go_enter Try.func12, Try.ntmps12
    go_wp2_with (go_at_call 37; refine (isValue_any _ _).mono ?_; rintro e w' ⟨rfl, rfl⟩)
    go_ret2
    exact ⟨rfl, (Ext.refl' w).al _⟩
  have b2 : (f2 == 2) = false := by simp [h2]
  by_cases h3 : f2 = 3
  · have b3 : (f2 == 3) = true := by simp [h3]
    subst h3
    go_enter Try.func12, Try.ntmps12
    go_wp2_with (go_at_call 37; refine (isValue_any _ _).mono ?_; rintro e w' ⟨rfl, rfl⟩)
    go_ret2
    exact ⟨rfl, (Ext.refl' w).al _⟩
  have b3 : (f2 == 3) = false := by simp [h3]
  by_cases h4 : f2 = 4
  · have b4 : (f2 == 4) = true := by simp [h4]
    subst h4
    go_enter Try.func12, Try.ntmps12
    go_wp2_with (go_at_call 37; refine (isValue_any _ _).mono ?_; rintro e w' ⟨rfl, rfl⟩)
    go_ret2
    exact ⟨rfl, (Ext.refl' w).al _⟩
  have b4 : (f2 == 4) = false := by simp [h4]
  rw [if_neg h1, if_neg h2, if_neg h3, if_neg h4]
  go_enter Try.func12, Try.ntmps12
  go_wp2_with (go_at_call 37; refine (isValue_any _ _).mono ?_; rintro e w' ⟨rfl, rfl⟩)
  go_ret2
  exact ⟨rfl, (Ext.refl' w).al _⟩

set_option maxHeartbeats 2000000 in
theorem law_CallDo (v f0 f1 f2 f3 f4 : Int) (w : World) :
    Calls Try.prog 3 #[.int .i64 v, .agg #[.int .i64 f0, .int .i64 f1, .int .i64 f2, .int .i64 f3, .int .i64 f4]] w fun e w' => e = .returned (.bool true) ∧ Ext w w' := by
  go_enter Try.func3, Try.ntmps3
  go_wp2_with fail
  refine (toCall_any _ _ _ _ _ _).mono ?_
  rintro e w1 ⟨rfl, x1⟩
  have xx := ((Ext.refl' w).al _).tr x1
  have hc : ∀ j : Nat, w1.cell? ⟨w.heap.size, j, none⟩ = (w.alloc (Obj.cells #[.int .i64 f0, .int .i64 f1, .int .i64 f2, .int .i64 f3, .int .i64 f4] 23)).cell? ⟨w.heap.size, j, none⟩ := fun j => x1.cell (p := ⟨w.heap.size, j, none⟩) (by simp)
  have HC := Lib.hid hc
  clear hc
  go_wp2_with fail
  refine (spec_CallDo _ _ _ _ _ _ _).mono ?_
  rintro e w2 ⟨rfl, x2⟩
  have g0 : w2.cell? ⟨w.heap.size, 0, none⟩ = some (.int .i64 f0) := by
    rw [x2.cell (p := ⟨w.heap.size, 0, none⟩) (by have := x1.size; simp at this; show w.heap.size < _; omega), HC.out]; simp
  have g1 : w2.cell? ⟨w.heap.size, 1, none⟩ = some (.int .i64 f1) := by
    rw [x2.cell (p := ⟨w.heap.size, 1, none⟩) (by have := x1.size; simp at this; show w.heap.size < _; omega), HC.out]; simp
  have g2 : w2.cell? ⟨w.heap.size, 2, none⟩ = some (.int .i64 f2) := by
    rw [x2.cell (p := ⟨w.heap.size, 2, none⟩) (by have := x1.size; simp at this; show w.heap.size < _; omega), HC.out]; simp
  have g3 : w2.cell? ⟨w.heap.size, 3, none⟩ = some (.int .i64 f3) := by
    rw [x2.cell (p := ⟨w.heap.size, 3, none⟩) (by have := x1.size; simp at this; show w.heap.size < _; omega), HC.out]; simp
  have g4 : w2.cell? ⟨w.heap.size, 4, none⟩ = some (.int .i64 f4) := by
    rw [x2.cell (p := ⟨w.heap.size, 4, none⟩) (by have := x1.size; simp at this; show w.heap.size < _; omega), HC.out]; simp
  have X2 := Lib.hid (xx.tr x2)
  clear x1 x2 xx
  go_wp2_with fail
  refine (toCall_any _ _ _ _ _ _).mono ?_
  rintro e w3 ⟨rfl, x3⟩
  have X3 := Lib.hid (X2.out.tr x3)
  clear x3
  go_wp2_with fail
  refine (impl_CallDo _ _ _ _ _ _ _).mono ?_
  rintro e w4 ⟨rfl, x4⟩
  have X4 := Lib.hid (X3.out.tr x4)
  clear x4
  go_wp2
  go_ret
  exact ⟨rfl, X4.out⟩
end Go.Proofs.Ytcnkmbofpppfaaa
