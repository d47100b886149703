/- TasksOk of program and reference; the contract of laws.FnExactTasksOk. No condition. -/
import Derived.Test.YtfkbomcbcjjlbaaIn
namespace Go.Proofs.Ytfkbomcbcjjlbaa
open Go.RowKit

def tasksUpTo (zs : List Int) (k : Nat) : Prop := ∀ i, i < k → ∀ x, zs[i]? = some x → (-1 ≤ x ∧ x ≤ (i : Int) - 1)
def tasksOkP (zs : List Int) : Prop := zs.length ≤ 20 ∧ tasksUpTo zs zs.length
open Classical in
noncomputable def tasksOk (zs : List Int) : Bool := decide (tasksOkP zs)
theorem tasksOk_yes {zs : List Int} (h : tasksOkP zs) : tasksOk zs = true := by simp [tasksOk, h]
theorem tasksOk_no {zs : List Int} (h : ¬ tasksOkP zs) : tasksOk zs = false := by simp [tasksOk, h]
theorem tasksUpTo_succ {zs : List Int} {k : Nat} {x : Int} (h : tasksUpTo zs k) (hx : zs[k]? = some x) (h1 : -1 ≤ x) (h2 : x ≤ (k : Int) - 1) : tasksUpTo zs (k + 1) := by
  intro i hi y hy
  by_cases e : i = k
  · subst e; rw [hx] at hy; injection hy with hy; subst hy; exact ⟨h1, h2⟩
  · exact h i (by omega) y hy
theorem tasks_fail {zs : List Int} {k : Nat} {x : Int} (hx : zs[k]? = some x) (h : ¬ (-1 ≤ x ∧ x ≤ (k : Int) - 1)) : tasksOk zs = false :=
  tasksOk_no fun hh => h (hh.2 k (by have := (List.getElem?_eq_some_iff.1 hx).1; exact this) x hx)

set_option maxHeartbeats 400000 in
theorem spec_TasksOk (A : Option Addr) (n c : Nat) (zs : List Int) (w : World) (S : Nat → Prop) (hs : Sl w S 1 A n (ints zs)) (hm : n ≤ 9223372036854775807) :
    Calls Try.prog 9 #[.slice A n c] w fun e w' => e = .returned (.bool (tasksOk zs)) ∧ w = w' := by
  have hl := hs.len
  by_cases h20 : n ≤ 20
  · go_enter Try.func9, Try.ntmps9
    have H := Lib.hid hl
    clear hl
    go_wp2
    go_loop [3] (fun i => ∃ k : Nat, k ≤ n ∧ i = .int .i64 k ∧ tasksUpTo zs k) (fun i => n - (intOf i).toNat)
    case atStart => exact ⟨0, Nat.zero_le _, rfl, fun i hi => absurd hi (Nat.not_lt_zero _)⟩
    case round =>
      obtain ⟨k, hk, rfl, hup⟩ := hrel
      by_cases hlt : k < n
      · obtain ⟨b, o, x, rfl, hb, hx, hc⟩ := hs.int_at hlt
        have HX := Lib.hid hx
        have HU := Lib.hid hup
        clear hx hup
        by_cases hg : -1 ≤ x ∧ x ≤ (k : Int) - 1
        · have hd : decide (-1 ≤ x ∧ x ≤ (k : Int) - 1) = true := by simpa using hg
          go_wp2_with (go_at_call 36; refine (l1In_any _ _ _ _).mono ?_; rintro e w' ⟨rfl, rfl⟩)
          go_round
          case rel => exact ⟨k + 1, by omega, by go_num, tasksUpTo_succ HU.out HX.out hg.1 hg.2⟩
          case measure => simp [intOf]; omega
        · have hd : decide (-1 ≤ x ∧ x ≤ (k : Int) - 1) = false := by simpa using hg
          go_wp2_with (go_at_call 36; refine (l1In_any _ _ _ _).mono ?_; rintro e w' ⟨rfl, rfl⟩)
          go_ret
          exact ⟨by rw [tasks_fail HX.out hg]; rfl, rfl⟩
      · go_wp2
        go_ret
        exact ⟨by rw [tasksOk_yes ⟨by rw [H.out]; exact h20, by rw [H.out]; have : k = n := by omega
                                                                rw [← this]; exact hup⟩]; rfl, rfl⟩
  · go_enter Try.func9, Try.ntmps9
    go_wp2
    go_ret
    exact ⟨by rw [tasksOk_no fun h => h20 (by rw [← hl]; exact h.1)]; rfl, rfl⟩

set_option maxHeartbeats 400000 in
theorem impl_TasksOk (A : Option Addr) (n c : Nat) (zs : List Int) (w : World) (S : Nat → Prop) (hs : Sl w S 1 A n (ints zs)) (hm : n ≤ 9223372036854775807) :
    Calls Try.prog 11 #[.slice A n c] w fun e w' => e = .returned (.bool (tasksOk zs)) ∧ w = w' := by
  have H := Lib.hid hs.len
  go_enter Try.func11, Try.ntmps11
  go_wp2
  go_loop [7] (fun i => ∃ k : Nat, k ≤ n ∧ i = .int .i64 k ∧ tasksUpTo zs k) (fun i => n - (intOf i).toNat)
  case atStart => exact ⟨0, Nat.zero_le _, rfl, fun i hi => absurd hi (Nat.not_lt_zero _)⟩
  case round =>
    obtain ⟨k, hk, rfl, hup⟩ := hrel
    by_cases hlt : k < n
    · obtain ⟨b, o, x, rfl, hb, hx, hc⟩ := hs.int_at hlt
      have HX := Lib.hid hx
      have HU := Lib.hid hup
      clear hx hup
      by_cases hg : -1 ≤ x ∧ x ≤ (k : Int) - 1
      · have hd : decide (-1 ≤ x ∧ x ≤ (k : Int) - 1) = true := by simpa using hg
        go_wp2_with (go_at_call 37; refine (within_any _ _ _ _).mono ?_; rintro e w' ⟨rfl, rfl⟩)
        go_round
        case rel => exact ⟨k + 1, by omega, by go_num, tasksUpTo_succ HU.out HX.out hg.1 hg.2⟩
        case measure => simp [intOf]; omega
      · have hd : decide (-1 ≤ x ∧ x ≤ (k : Int) - 1) = false := by simpa using hg
        go_wp2_with (go_at_call 37; refine (within_any _ _ _ _).mono ?_; rintro e w' ⟨rfl, rfl⟩)
        go_ret
        exact ⟨by rw [tasks_fail HX.out hg]; rfl, rfl⟩
    · have e : k = n := by omega
      have HU : tasksUpTo zs zs.length := by rw [H.out, ← e]; exact hup
      clear e hup
      by_cases h20 : n ≤ 20
      · have h20' : (n : Int) ≤ 20 := by omega
        go_wp2
        go_ret
        exact ⟨by rw [tasksOk_yes ⟨by rw [H.out]; exact h20, HU⟩]; simp, rfl⟩
      · have h20' : ¬ (n : Int) ≤ 20 := by omega
        go_wp2
        go_ret
        exact ⟨by rw [tasksOk_no fun h => h20 (by rw [← H.out]; exact h.1)]; simp, rfl⟩

set_option maxHeartbeats 400000 in
theorem law_TasksOk (A : Option Addr) (n c : Nat) (zs : List Int) (w : World) (hs : Sl w (fun _ => True) 1 A n (ints zs)) (hm : n ≤ 9223372036854775807) :
    Calls Try.prog 3 #[.slice A n c] w fun e w' => e = .returned (.bool true) ∧ Ext w w' := by
  by_cases hn : n ≤ 1048576
  · go_enter Try.func3, Try.ntmps3
    go_wp2_with fail
    refine (toIntS_any _ _ _ _ _ _ hs hn).mono ?_
    rintro e w1 ⟨B1, d1, rfl, o1, x1⟩
    have s1 := ownSl o1
    go_wp2_with fail
    refine (spec_TasksOk _ _ _ _ _ _ s1 hm).mono ?_
    rintro e w2 ⟨rfl, rfl⟩
    go_wp2_with fail
    have hs1 := hs.ext x1
    refine (toIntS_any _ _ _ _ _ _ hs1 hn).mono ?_
    rintro e w2 ⟨B2, d2, rfl, o2, x2⟩
    have s2 := ownSl o2
    have hs2 := hs1.ext x2
    go_wp2_with fail
    refine (impl_TasksOk _ _ _ _ _ _ s2 hm).mono ?_
    rintro e w3 ⟨rfl, rfl⟩
    go_wp2_with fail
    refine (toIntS_any _ _ _ _ _ _ hs2 hn).mono ?_
    rintro e w3 ⟨B3, d3, rfl, o3, x3⟩
    have s3 := ownSl o3
    have s23 := s2.ext x3
    go_wp2_with fail
    refine (eqIntS_same _ _ _ _ _ _ _ _ _ s23 s3 hm).mono ?_
    rintro e w4 ⟨rfl, x4⟩
    go_wp2
    go_ret
    exact ⟨rfl, ((x1.tr x2).tr x3).tr x4⟩
  · go_enter Try.func3, Try.ntmps3
    go_wp2
    go_ret
    exact ⟨rfl, Ext.refl' _⟩
end Go.Proofs.Ytfkbomcbcjjlbaa
