/-
  No cell of these rows narrows 'for every input' (looked for: loops, veiled, ifaces, maps, wideKeys, modest, calm, conditions, laid).
  DERIVED. THE GIVEN ROWS OF THIS SEAT. 5 by the template 'for every input the law returns true; each argument reads behind the call as it read before'; 0 by the template 'total and deterministic' (their statements: YtkkcgpoakhllkaaTotals.lean).
  GIVEN WITH THE SEED: the statements are not yours to turn. If you find one false, say at which input.
  Laid BY PROGRAM, IN A SANDBOX (cutbox-rows.mjs): the forced cells as the released guide's own fill.sh prints them over the translation 621e22795d10ff7d… (all of the seat's roots in one cut). By AI agents, Wed Nov 11 2026. No macro, syntax, notation, axiom, sorry.
-/
import Derived.Test.YtkkcgpoakhllkaaChecked
import GoSem.Claim
import GoSem.ClaimJoined
import GoSem.ClaimMapViews
import Derived.JoinedTies
import Derived.KernelRfl
namespace Go.Proofs.Ytkkcgpoakhllkaa
/- THE CELL 'sum', in the pinned program and in every row, IS THE sha256 OF THE DUMP (.gsa) THAT YtkkcgpoakhllkaaProg.lean LOADS. Nothing in Lean hashes anything: it is a label: what it is worth is what the hold of that sum in a sandbox is worth. -/
noncomputable def Try.pinned : Pinned := { name := "ytkkcgpoakhllkaa", sum := "621e22795d10ff7dc5f99d5fcb227dd0899bf8747682a48fe9182b8c07fa6902", checked := Try.checked }
namespace Rows
def none {H : Type} : Left H := { results := [], args := [] }

/-- 'laws.FnExactDqOk': WHATEVER THE INPUT: true; the input reads as it did. -/
def fnExactDqOkSpec : ChangeSpec := { name := "fnExactDqOk", fn := fun _ => fun
  | [d1, d2] => { results := [.lit (.bool true)], args := [d1, d2] }
  | _ => none }
def fnExactDqOkRow : OpenClaim := { program := "ytkkcgpoakhllkaa", sum := "621e22795d10ff7dc5f99d5fcb227dd0899bf8747682a48fe9182b8c07fa6902", func := "loop.example/g01277/laws.FnExactDqOk", spec := "fnExactDqOk", apart := false }
def FnExactDqOkSaid : Prop := fnExactDqOkRow.holds Try.pinned (OpenSpec.ofChange fnExactDqOkSpec)

/-- ITS FALSE NEIGHBOUR: 'it returns false'. Refute it at one input. -/
def fnExactDqOkWrong : ChangeSpec := { name := "fnExactDqOk", fn := fun _ => fun
  | [d1, d2] => { results := [.lit (.bool false)], args := [d1, d2] }
  | _ => none }
def FnExactDqOkWrongFalsely : Prop := fnExactDqOkRow.holds Try.pinned (OpenSpec.ofChange fnExactDqOkWrong)

/-- 'laws.FnExactDqRest': WHATEVER THE INPUT: true; the input reads as it did. -/
def fnExactDqRestSpec : ChangeSpec := { name := "fnExactDqRest", fn := fun _ => fun
  | [d] => { results := [.lit (.bool true)], args := [d] }
  | _ => none }
def fnExactDqRestRow : OpenClaim := { program := "ytkkcgpoakhllkaa", sum := "621e22795d10ff7dc5f99d5fcb227dd0899bf8747682a48fe9182b8c07fa6902", func := "loop.example/g01277/laws.FnExactDqRest", spec := "fnExactDqRest", unfollowed := true, recurses := true, apart := false }
def FnExactDqRestSaid : Prop := fnExactDqRestRow.holds Try.pinned (OpenSpec.ofChange fnExactDqRestSpec)

/-- ITS FALSE NEIGHBOUR: 'it returns false'. Refute it at one input. -/
def fnExactDqRestWrong : ChangeSpec := { name := "fnExactDqRest", fn := fun _ => fun
  | [d] => { results := [.lit (.bool false)], args := [d] }
  | _ => none }
def FnExactDqRestWrongFalsely : Prop := fnExactDqRestRow.holds Try.pinned (OpenSpec.ofChange fnExactDqRestWrong)

/-- 'laws.FnExactDqLeft': WHATEVER THE INPUT: true; the input reads as it did. -/
def fnExactDqLeftSpec : ChangeSpec := { name := "fnExactDqLeft", fn := fun _ => fun
  | [d] => { results := [.lit (.bool true)], args := [d] }
  | _ => none }
def fnExactDqLeftRow : OpenClaim := { program := "ytkkcgpoakhllkaa", sum := "621e22795d10ff7dc5f99d5fcb227dd0899bf8747682a48fe9182b8c07fa6902", func := "loop.example/g01277/laws.FnExactDqLeft", spec := "fnExactDqLeft", apart := false }
def FnExactDqLeftSaid : Prop := fnExactDqLeftRow.holds Try.pinned (OpenSpec.ofChange fnExactDqLeftSpec)

/-- ITS FALSE NEIGHBOUR: 'it returns false'. Refute it at one input. -/
def fnExactDqLeftWrong : ChangeSpec := { name := "fnExactDqLeft", fn := fun _ => fun
  | [d] => { results := [.lit (.bool false)], args := [d] }
  | _ => none }
def FnExactDqLeftWrongFalsely : Prop := fnExactDqLeftRow.holds Try.pinned (OpenSpec.ofChange fnExactDqLeftWrong)

/-- 'laws.FnExactDqPlay': WHATEVER THE INPUT: true; the input reads as it did. -/
def fnExactDqPlaySpec : ChangeSpec := { name := "fnExactDqPlay", fn := fun _ => fun
  | [d1, d2] => { results := [.lit (.bool true)], args := [d1, d2] }
  | _ => none }
def fnExactDqPlayRow : OpenClaim := { program := "ytkkcgpoakhllkaa", sum := "621e22795d10ff7dc5f99d5fcb227dd0899bf8747682a48fe9182b8c07fa6902", func := "loop.example/g01277/laws.FnExactDqPlay", spec := "fnExactDqPlay", apart := false }
def FnExactDqPlaySaid : Prop := fnExactDqPlayRow.holds Try.pinned (OpenSpec.ofChange fnExactDqPlaySpec)

/-- ITS FALSE NEIGHBOUR: 'it returns false'. Refute it at one input. -/
def fnExactDqPlayWrong : ChangeSpec := { name := "fnExactDqPlay", fn := fun _ => fun
  | [d1, d2] => { results := [.lit (.bool false)], args := [d1, d2] }
  | _ => none }
def FnExactDqPlayWrongFalsely : Prop := fnExactDqPlayRow.holds Try.pinned (OpenSpec.ofChange fnExactDqPlayWrong)

/-- 'laws.FnDeque': WHATEVER THE INPUT: true; the input reads as it did. -/
def fnDequeSpec : ChangeSpec := { name := "fnDeque", fn := fun _ => fun
  | [d] => { results := [.lit (.bool true)], args := [d] }
  | _ => none }
def fnDequeRow : OpenClaim := { program := "ytkkcgpoakhllkaa", sum := "621e22795d10ff7dc5f99d5fcb227dd0899bf8747682a48fe9182b8c07fa6902", func := "loop.example/g01277/laws.FnDeque", spec := "fnDeque", unfollowed := true, recurses := true, apart := false }
def FnDequeSaid : Prop := fnDequeRow.holds Try.pinned (OpenSpec.ofChange fnDequeSpec)

/-- ITS FALSE NEIGHBOUR: 'it returns false'. Refute it at one input. -/
def fnDequeWrong : ChangeSpec := { name := "fnDeque", fn := fun _ => fun
  | [d] => { results := [.lit (.bool false)], args := [d] }
  | _ => none }
def FnDequeWrongFalsely : Prop := fnDequeRow.holds Try.pinned (OpenSpec.ofChange fnDequeWrong)

/- THE SECOND FORM. 'bulk': how many values and letters a reading holds, each counted each time it is reached (what is shared counts as often as it is met; a slice's spare places count too). A statement '..UptoSaid' is the law's where the arguments, and the package variables that the reading takes, are together of bulk at most 1048576: NARROWER than '..Said'. Prove '..Said' where nothing that the law and all that it calls make is longer than what came in: it says more and counts as full. Else prove '..UptoSaid'. A law counts once. -/
mutual
def uptoBulk {H : Type} : DataW H → Nat
  | .lit (.string bytes) => bytes.length + 1
  | .lit _ => 1
  | .nil => 1
  | .ptr d => uptoBulk d + 1
  | .slice elems spare => uptoBulkAll elems + uptoBulkAll spare + 1
  | .agg parts => uptoBulkAll parts + 1
  | .iface _ d => uptoBulk d + 1
  | .map entries => uptoBulkEntries entries + 1
  | .held _ => 1
def uptoBulkAll {H : Type} : List (DataW H) → Nat
  | [] => 0
  | d :: r => uptoBulk d + uptoBulkAll r
def uptoBulkEntries {H : Type} : List (Lit × DataW H) → Nat
  | [] => 0
  | x :: r => uptoBulkEntry x + uptoBulkEntries r
def uptoBulkEntry {H : Type} : Lit × DataW H → Nat
  | (.string bytes, d) => bytes.length + uptoBulk d + 1
  | (_, d) => uptoBulk d + 1
 end
def uptoSmall : (H : Type) → List (DataW H) → Bool := fun _ ds => decide (uptoBulkAll ds ≤ 1048576)
def OpenSpec.upto (s : _root_.Go.ChangeSpec) : _root_.Go.OpenSpec := { _root_.Go.OpenSpec.ofChange s with cond := some uptoSmall }

/-- 'laws.FnExactDqOk', WHERE WHAT IT READS IS OF BULK AT MOST 1048576: true; the input reads as it did. -/
def fnExactDqOkUptoRow : OpenClaim := { program := "ytkkcgpoakhllkaa", sum := "621e22795d10ff7dc5f99d5fcb227dd0899bf8747682a48fe9182b8c07fa6902", func := "loop.example/g01277/laws.FnExactDqOk", spec := "fnExactDqOk", apart := false, narrowed := true }
def FnExactDqOkUptoSaid : Prop := fnExactDqOkUptoRow.holds Try.pinned (OpenSpec.upto fnExactDqOkSpec)

/-- 'laws.FnExactDqRest', WHERE WHAT IT READS IS OF BULK AT MOST 1048576: true; the input reads as it did. -/
def fnExactDqRestUptoRow : OpenClaim := { program := "ytkkcgpoakhllkaa", sum := "621e22795d10ff7dc5f99d5fcb227dd0899bf8747682a48fe9182b8c07fa6902", func := "loop.example/g01277/laws.FnExactDqRest", spec := "fnExactDqRest", unfollowed := true, recurses := true, apart := false, narrowed := true }
def FnExactDqRestUptoSaid : Prop := fnExactDqRestUptoRow.holds Try.pinned (OpenSpec.upto fnExactDqRestSpec)

/-- 'laws.FnExactDqLeft', WHERE WHAT IT READS IS OF BULK AT MOST 1048576: true; the input reads as it did. -/
def fnExactDqLeftUptoRow : OpenClaim := { program := "ytkkcgpoakhllkaa", sum := "621e22795d10ff7dc5f99d5fcb227dd0899bf8747682a48fe9182b8c07fa6902", func := "loop.example/g01277/laws.FnExactDqLeft", spec := "fnExactDqLeft", apart := false, narrowed := true }
def FnExactDqLeftUptoSaid : Prop := fnExactDqLeftUptoRow.holds Try.pinned (OpenSpec.upto fnExactDqLeftSpec)

/-- 'laws.FnExactDqPlay', WHERE WHAT IT READS IS OF BULK AT MOST 1048576: true; the input reads as it did. -/
def fnExactDqPlayUptoRow : OpenClaim := { program := "ytkkcgpoakhllkaa", sum := "621e22795d10ff7dc5f99d5fcb227dd0899bf8747682a48fe9182b8c07fa6902", func := "loop.example/g01277/laws.FnExactDqPlay", spec := "fnExactDqPlay", apart := false, narrowed := true }
def FnExactDqPlayUptoSaid : Prop := fnExactDqPlayUptoRow.holds Try.pinned (OpenSpec.upto fnExactDqPlaySpec)

/-- 'laws.FnDeque', WHERE WHAT IT READS IS OF BULK AT MOST 1048576: true; the input reads as it did. -/
def fnDequeUptoRow : OpenClaim := { program := "ytkkcgpoakhllkaa", sum := "621e22795d10ff7dc5f99d5fcb227dd0899bf8747682a48fe9182b8c07fa6902", func := "loop.example/g01277/laws.FnDeque", spec := "fnDeque", unfollowed := true, recurses := true, apart := false, narrowed := true }
def FnDequeUptoSaid : Prop := fnDequeUptoRow.holds Try.pinned (OpenSpec.upto fnDequeSpec)

end Rows
end Go.Proofs.Ytkkcgpoakhllkaa
