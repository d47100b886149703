/- The steps of the deque, of program and reference: words. No condition. -/
import Derived.Test.YtkkcgpoakhllkaaDqP
import Derived.Test.YtkkcgpoakhllkaaFlat
import Derived.Deep.RegionHeld3
import Derived.Deep.RegionLaw
namespace Go.Proofs.Ytkkcgpoakhllkaa
open Go.RowKit Go.Deep
set_option linter.unusedSimpArgs false
set_option linter.unusedVariables false

theorem taken_push (l : List Taken) (a v : Int) : l.flatMap Taken.cells ++ [.int .i64 a, .int .i64 v] = (l ++ [(⟨a, v⟩ : Taken)]).flatMap Taken.cells := by simp [Taken.cells]
/-- The cells of a deque whose slices are these. -/
def dqc (d : Dq) (A T K : Value) : List Value := [.int .i64 d.top, .int .i64 d.bottom, .int .i64 d.next, A, .int .i64 d.own.phase, .int .i64 d.own.b, .int .i64 d.own.t, T, K]
/-- A deque that is owned, behind its variable. -/
def DqM (b w : World) (g : Nat) (d : Dq) (fr : List Res) : Prop := ∃ (AI : Option Addr) (nI cI : Nat) (AT : Option Addr) (nT cT : Nat) (AK : Option Addr) (nK cK : Nat),
  Mine b w (.box g 42 (dqc d (.slice AI nI cI) (.slice AT nT cT) (.slice AK nK cK)).toArray :: .row 3 1 AI nI cI (ints d.items) :: .row 67 4 AT nT cT (d.th.flatMap Thief.cells) :: .row 57 2 AK nK cK (d.took.flatMap Taken.cells) :: fr)
/-- A deque that is owned, as a value. -/
def DqV (b w : World) (vs : List Value) (d : Dq) (fr : List Res) : Prop := ∃ (AI : Option Addr) (nI cI : Nat) (AT : Option Addr) (nT cT : Nat) (AK : Option Addr) (nK cK : Nat),
  vs = dqc d (.slice AI nI cI) (.slice AT nT cT) (.slice AK nK cK) ∧ Mine b w (.row 3 1 AI nI cI (ints d.items) :: .row 67 4 AT nT cT (d.th.flatMap Thief.cells) :: .row 57 2 AK nK cK (d.took.flatMap Taken.cells) :: fr)
/-- The bounds of the numbers. -/
theorem Dq.Inv.bounds {d : Dq} {n N : Nat} (h : d.Inv n N) : (0 ≤ d.top ∧ d.top ≤ 40) ∧ (-1 ≤ d.bottom ∧ d.bottom ≤ 40) ∧ (2 ≤ d.own.phase → -1 ≤ d.own.b ∧ d.own.b ≤ 40) := by
  have h1 := h.top
  have h2 := h.vb
  have h3 := h.ph
  have h4 := h.two
  have h5 := h.four
  have h6 : d.vb = if d.own.phase = 2 ∨ d.own.phase = 3 then d.own.b + 1 else if d.own.phase = 4 then d.own.b else d.bottom := rfl
  refine ⟨by omega, ?_, ?_⟩
  · by_cases c : d.own.phase = 2 ∨ d.own.phase = 3
    · rw [if_pos c] at h6; have := h4 c; omega
    · rw [if_neg c] at h6
      by_cases c4 : d.own.phase = 4
      · rw [if_pos c4] at h6; have := h5 c4; omega
      · rw [if_neg c4] at h6; omega
  · intro hp
    by_cases c : d.own.phase = 2 ∨ d.own.phase = 3
    · rw [if_pos c] at h6; omega
    · rw [if_neg c] at h6
      by_cases c4 : d.own.phase = 4
      · rw [if_pos c4] at h6; omega
      · omega

end Go.Proofs.Ytkkcgpoakhllkaa
