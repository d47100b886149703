/- Wrote: how it reads. No condition but sizes. -/
import Derived.Test.YtnhkjgnfjphllaaDeep
import Derived.Test.YtnhkjgnfjphllaaRow
import Derived.Test.YtnhkjgnfjphllaaVersT
namespace Go.Proofs.Ytnhkjgnfjphllaa
open Go.RowKit Go.Deep

/-! ### Wrote -/
structure Wrote where
  stamp_ : Int
  who_ : Int
  puts_ : List Row
deriving Inhabited
def Wrote.wt (x : Wrote) : Nat := x.puts_.length
def Wrote.R (w : World) (S : Nat → Prop) (cs : List Value) (x : Wrote) : Prop := ∃ (A0 : Option Addr) (n0 c0 : Nat), cs = [.int .i64 x.stamp_, .int .i64 x.who_, .slice A0 n0 c0] ∧ (n0 ≤ c0 ∧ n0 ≤ 9223372036854775807 ∧ Sl w S 2 A0 n0 (x.puts_.flatMap Row.cells))
def Wrote.W (w : World) (S : Nat → Prop) (cs : List Value) (x : Wrote) : Prop := ∃ (A0 : Option Addr) (n0 c0 : Nat) (lab : Nat → Nat), cs = [.int .i64 x.stamp_, .int .i64 x.who_, .slice A0 n0 c0] ∧ (n0 ≤ c0 ∧ n0 ≤ 9223372036854775807 ∧ OwS w (fun g => S g ∧ lab g = 0) 84 2 A0 n0 c0 (x.puts_.flatMap Row.cells))
theorem Wrote.R_good : Good Wrote.R 3 := ⟨fun {_ _ _ _} h => by
    obtain ⟨A0, n0, c0, rfl, ⟨kh0, mh0, h0⟩⟩ := h
    rfl,
  fun {_ _ _ _ _ _} h k hd => by
    obtain ⟨A0, n0, c0, rfl, ⟨kh0, mh0, h0⟩⟩ := h
    exact ⟨_, _, _, rfl, ⟨kh0, mh0, h0.chg k hd⟩⟩,
  fun {_ _ _ _ _} h hs => by
    obtain ⟨A0, n0, c0, rfl, ⟨kh0, mh0, h0⟩⟩ := h
    exact ⟨_, _, _, rfl, ⟨kh0, mh0, h0.mono hs⟩⟩⟩
theorem Wrote.W_good : Good Wrote.W 3 := ⟨fun {_ _ _ _} h => by
    obtain ⟨A0, n0, c0, lab, rfl, ⟨kh0, mh0, h0⟩⟩ := h
    rfl,
  fun {_ _ _ _ _ _} h k hd => by
    obtain ⟨A0, n0, c0, lab, rfl, ⟨kh0, mh0, h0⟩⟩ := h
    exact ⟨_, _, _, lab, rfl, ⟨kh0, mh0, h0.chg k fun i hi => hd i hi.1⟩⟩,
  fun {_ _ _ _ _} h hs => by
    obtain ⟨A0, n0, c0, lab, rfl, ⟨kh0, mh0, h0⟩⟩ := h
    exact ⟨_, _, _, lab, rfl, ⟨kh0, mh0, h0.mono fun i _ hi => ⟨hs i hi.1, hi.2⟩⟩⟩⟩
theorem Wrote.W_R {w : World} {S : Nat → Prop} {cs : List Value} {x : Wrote} (h : Wrote.W w S cs x) : Wrote.R w S cs x := by
  obtain ⟨A0, n0, c0, lab, rfl, ⟨kh0, mh0, h0⟩⟩ := h
  exact ⟨_, _, _, rfl, ⟨kh0, mh0, h0.sl.mono fun i hi => hi.1⟩⟩
theorem Wrote.R_cells {w : World} {S : Nat → Prop} {cs : List Value} {x : Wrote} (h : Wrote.R w S cs x) : ∃ (A0 : Option Addr) (n0 c0 : Nat), cs = [.int .i64 x.stamp_, .int .i64 x.who_, .slice A0 n0 c0] := by
  obtain ⟨A0, n0, c0, rfl, ⟨kh0, mh0, h0⟩⟩ := h
  exact ⟨A0, n0, c0, rfl⟩
theorem Wrote.W_cells {w : World} {S : Nat → Prop} {cs : List Value} {x : Wrote} (h : Wrote.W w S cs x) : ∃ (A0 : Option Addr) (n0 c0 : Nat), cs = [.int .i64 x.stamp_, .int .i64 x.who_, .slice A0 n0 c0] := by
  obtain ⟨A0, n0, c0, lab, rfl, ⟨kh0, mh0, h0⟩⟩ := h
  exact ⟨A0, n0, c0, rfl⟩theorem Wrote.size_info : (Try.prog.info? 64).map (·.size) = some 3 := by kernel_rfl
theorem Wrote.W_one {w : World} {S : Nat → Prop} {cs : List Value} {x : Wrote} (h : Wrote.W w S cs x) : ∀ v ∈ cs, v.oneCell' = true := by
  obtain ⟨A0, n0, c0, rfl⟩ := Wrote.W_cells h
  simp [Value.oneCell']

end Go.Proofs.Ytnhkjgnfjphllaa
