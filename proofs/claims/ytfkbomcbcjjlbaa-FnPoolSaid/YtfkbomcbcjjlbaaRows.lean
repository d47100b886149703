/-
  No cell of these rows narrows 'for every input' (looked for: loops, veiled, ifaces, maps, wideKeys, modest, calm, conditions, laid).
  DERIVED. THE GIVEN ROWS OF THIS SEAT. 6 by the template 'for every input the law returns true; each argument reads behind the call as it read before'; 0 by the template 'total and deterministic' (their statements: YtfkbomcbcjjlbaaTotals.lean).
  GIVEN WITH THE SEED: the statements are not yours to turn. If you find one false, say at which input.
  Laid BY PROGRAM, IN A SANDBOX (cutbox-rows.mjs): the forced cells as the released guide's own fill.sh prints them over the translation 7f547eacd726bdee… (all of the seat's roots in one cut). By AI agents, Wed Nov 11 2026. No macro, syntax, notation, axiom, sorry.
-/
import Derived.Test.YtfkbomcbcjjlbaaChecked
import GoSem.Claim
import GoSem.ClaimJoined
import GoSem.ClaimMapViews
import Derived.JoinedTies
import Derived.KernelRfl
namespace Go.Proofs.Ytfkbomcbcjjlbaa
/- THE CELL 'sum', in the pinned program and in every row, IS THE sha256 OF THE DUMP (.gsa) THAT YtfkbomcbcjjlbaaProg.lean LOADS. Nothing in Lean hashes anything: it is a label: what it is worth is what the hold of that sum in a sandbox is worth. -/
noncomputable def Try.pinned : Pinned := { name := "ytfkbomcbcjjlbaa", sum := "7f547eacd726bdeefcf0d676a94d9bef179d74c10ebb4f45e204ac36ce82a37d", checked := Try.checked }
namespace Rows
def none {H : Type} : Left H := { results := [], args := [] }

/-- 'laws.FnExactTasksOk': WHATEVER THE INPUT: true; the input reads as it did. -/
def fnExactTasksOkSpec : ChangeSpec := { name := "fnExactTasksOk", fn := fun _ => fun
  | [d] => { results := [.lit (.bool true)], args := [d] }
  | _ => none }
def fnExactTasksOkRow : OpenClaim := { program := "ytfkbomcbcjjlbaa", sum := "7f547eacd726bdeefcf0d676a94d9bef179d74c10ebb4f45e204ac36ce82a37d", func := "loop.example/g01277/laws.FnExactTasksOk", spec := "fnExactTasksOk", apart := false }
def FnExactTasksOkSaid : Prop := fnExactTasksOkRow.holds Try.pinned (OpenSpec.ofChange fnExactTasksOkSpec)

/-- ITS FALSE NEIGHBOUR: 'it returns false'. Refute it at one input. -/
def fnExactTasksOkWrong : ChangeSpec := { name := "fnExactTasksOk", fn := fun _ => fun
  | [d] => { results := [.lit (.bool false)], args := [d] }
  | _ => none }
def FnExactTasksOkWrongFalsely : Prop := fnExactTasksOkRow.holds Try.pinned (OpenSpec.ofChange fnExactTasksOkWrong)

/-- 'laws.FnExactKidsOf': WHATEVER THE INPUT: true; the input reads as it did. -/
def fnExactKidsOfSpec : ChangeSpec := { name := "fnExactKidsOf", fn := fun _ => fun
  | [d1, d2] => { results := [.lit (.bool true)], args := [d1, d2] }
  | _ => none }
def fnExactKidsOfRow : OpenClaim := { program := "ytfkbomcbcjjlbaa", sum := "7f547eacd726bdeefcf0d676a94d9bef179d74c10ebb4f45e204ac36ce82a37d", func := "loop.example/g01277/laws.FnExactKidsOf", spec := "fnExactKidsOf", apart := false }
def FnExactKidsOfSaid : Prop := fnExactKidsOfRow.holds Try.pinned (OpenSpec.ofChange fnExactKidsOfSpec)

/-- ITS FALSE NEIGHBOUR: 'it returns false'. Refute it at one input. -/
def fnExactKidsOfWrong : ChangeSpec := { name := "fnExactKidsOf", fn := fun _ => fun
  | [d1, d2] => { results := [.lit (.bool false)], args := [d1, d2] }
  | _ => none }
def FnExactKidsOfWrongFalsely : Prop := fnExactKidsOfRow.holds Try.pinned (OpenSpec.ofChange fnExactKidsOfWrong)

/-- 'laws.FnExactPoolOver': WHATEVER THE INPUT: true; the input reads as it did. -/
def fnExactPoolOverSpec : ChangeSpec := { name := "fnExactPoolOver", fn := fun _ => fun
  | [d] => { results := [.lit (.bool true)], args := [d] }
  | _ => none }
def fnExactPoolOverRow : OpenClaim := { program := "ytfkbomcbcjjlbaa", sum := "7f547eacd726bdeefcf0d676a94d9bef179d74c10ebb4f45e204ac36ce82a37d", func := "loop.example/g01277/laws.FnExactPoolOver", spec := "fnExactPoolOver", unfollowed := true, recurses := true, apart := false }
def FnExactPoolOverSaid : Prop := fnExactPoolOverRow.holds Try.pinned (OpenSpec.ofChange fnExactPoolOverSpec)

/-- ITS FALSE NEIGHBOUR: 'it returns false'. Refute it at one input. -/
def fnExactPoolOverWrong : ChangeSpec := { name := "fnExactPoolOver", fn := fun _ => fun
  | [d] => { results := [.lit (.bool false)], args := [d] }
  | _ => none }
def FnExactPoolOverWrongFalsely : Prop := fnExactPoolOverRow.holds Try.pinned (OpenSpec.ofChange fnExactPoolOverWrong)

/-- 'laws.FnExactPoolPlay': WHATEVER THE INPUT: true; the input reads as it did. -/
def fnExactPoolPlaySpec : ChangeSpec := { name := "fnExactPoolPlay", fn := fun _ => fun
  | [d1, d2, d3] => { results := [.lit (.bool true)], args := [d1, d2, d3] }
  | _ => none }
def fnExactPoolPlayRow : OpenClaim := { program := "ytfkbomcbcjjlbaa", sum := "7f547eacd726bdeefcf0d676a94d9bef179d74c10ebb4f45e204ac36ce82a37d", func := "loop.example/g01277/laws.FnExactPoolPlay", spec := "fnExactPoolPlay", recurses := true, apart := false }
def FnExactPoolPlaySaid : Prop := fnExactPoolPlayRow.holds Try.pinned (OpenSpec.ofChange fnExactPoolPlaySpec)

/-- ITS FALSE NEIGHBOUR: 'it returns false'. Refute it at one input. -/
def fnExactPoolPlayWrong : ChangeSpec := { name := "fnExactPoolPlay", fn := fun _ => fun
  | [d1, d2, d3] => { results := [.lit (.bool false)], args := [d1, d2, d3] }
  | _ => none }
def FnExactPoolPlayWrongFalsely : Prop := fnExactPoolPlayRow.holds Try.pinned (OpenSpec.ofChange fnExactPoolPlayWrong)

/-- 'laws.FnExactPoolDrain': WHATEVER THE INPUT: true; the input reads as it did. -/
def fnExactPoolDrainSpec : ChangeSpec := { name := "fnExactPoolDrain", fn := fun _ => fun
  | [d1, d2, d3] => { results := [.lit (.bool true)], args := [d1, d2, d3] }
  | _ => none }
def fnExactPoolDrainRow : OpenClaim := { program := "ytfkbomcbcjjlbaa", sum := "7f547eacd726bdeefcf0d676a94d9bef179d74c10ebb4f45e204ac36ce82a37d", func := "loop.example/g01277/laws.FnExactPoolDrain", spec := "fnExactPoolDrain", unfollowed := true, recurses := true, apart := false }
def FnExactPoolDrainSaid : Prop := fnExactPoolDrainRow.holds Try.pinned (OpenSpec.ofChange fnExactPoolDrainSpec)

/-- ITS FALSE NEIGHBOUR: 'it returns false'. Refute it at one input. -/
def fnExactPoolDrainWrong : ChangeSpec := { name := "fnExactPoolDrain", fn := fun _ => fun
  | [d1, d2, d3] => { results := [.lit (.bool false)], args := [d1, d2, d3] }
  | _ => none }
def FnExactPoolDrainWrongFalsely : Prop := fnExactPoolDrainRow.holds Try.pinned (OpenSpec.ofChange fnExactPoolDrainWrong)

/-- 'laws.FnPool': WHATEVER THE INPUT: true; the input reads as it did. -/
def fnPoolSpec : ChangeSpec := { name := "fnPool", fn := fun _ => fun
  | [d] => { results := [.lit (.bool true)], args := [d] }
  | _ => none }
def fnPoolRow : OpenClaim := { program := "ytfkbomcbcjjlbaa", sum := "7f547eacd726bdeefcf0d676a94d9bef179d74c10ebb4f45e204ac36ce82a37d", func := "loop.example/g01277/laws.FnPool", spec := "fnPool", unfollowed := true, recurses := true, apart := false }
def FnPoolSaid : Prop := fnPoolRow.holds Try.pinned (OpenSpec.ofChange fnPoolSpec)

/-- ITS FALSE NEIGHBOUR: 'it returns false'. Refute it at one input. -/
def fnPoolWrong : ChangeSpec := { name := "fnPool", fn := fun _ => fun
  | [d] => { results := [.lit (.bool false)], args := [d] }
  | _ => none }
def FnPoolWrongFalsely : Prop := fnPoolRow.holds Try.pinned (OpenSpec.ofChange fnPoolWrong)

/- THE SECOND FORM. 'bulk': how many values and letters a reading holds, each counted each time it is reached (what is shared counts as often as it is met; a slice's spare places count too). A statement '..UptoSaid' is the law's where the arguments, and the package variables that the reading takes, are together of bulk at most 1048576: NARROWER than '..Said'. Prove '..Said' where nothing that the law and all that it calls make is longer than what came in: it says more and counts as full. Else prove '..UptoSaid'. A law counts once. -/
mutual
def uptoBulk {H : Type} : DataW H → Nat
  | .lit (.string bytes) => bytes.length + 1
  | .lit _ => 1
  | .nil => 1
  | .ptr d => uptoBulk d + 1
  | .slice elems spare => uptoBulkAll elems + uptoBulkAll spare + 1
  | .agg parts => uptoBulkAll parts + 1
  | .iface _ d => uptoBulk d + 1
  | .map entries => uptoBulkEntries entries + 1
  | .held _ => 1
def uptoBulkAll {H : Type} : List (DataW H) → Nat
  | [] => 0
  | d :: r => uptoBulk d + uptoBulkAll r
def uptoBulkEntries {H : Type} : List (Lit × DataW H) → Nat
  | [] => 0
  | x :: r => uptoBulkEntry x + uptoBulkEntries r
def uptoBulkEntry {H : Type} : Lit × DataW H → Nat
  | (.string bytes, d) => bytes.length + uptoBulk d + 1
  | (_, d) => uptoBulk d + 1
 end
def uptoSmall : (H : Type) → List (DataW H) → Bool := fun _ ds => decide (uptoBulkAll ds ≤ 1048576)
def OpenSpec.upto (s : _root_.Go.ChangeSpec) : _root_.Go.OpenSpec := { _root_.Go.OpenSpec.ofChange s with cond := some uptoSmall }

/-- 'laws.FnExactTasksOk', WHERE WHAT IT READS IS OF BULK AT MOST 1048576: true; the input reads as it did. -/
def fnExactTasksOkUptoRow : OpenClaim := { program := "ytfkbomcbcjjlbaa", sum := "7f547eacd726bdeefcf0d676a94d9bef179d74c10ebb4f45e204ac36ce82a37d", func := "loop.example/g01277/laws.FnExactTasksOk", spec := "fnExactTasksOk", apart := false, narrowed := true }
def FnExactTasksOkUptoSaid : Prop := fnExactTasksOkUptoRow.holds Try.pinned (OpenSpec.upto fnExactTasksOkSpec)

/-- 'laws.FnExactKidsOf', WHERE WHAT IT READS IS OF BULK AT MOST 1048576: true; the input reads as it did. -/
def fnExactKidsOfUptoRow : OpenClaim := { program := "ytfkbomcbcjjlbaa", sum := "7f547eacd726bdeefcf0d676a94d9bef179d74c10ebb4f45e204ac36ce82a37d", func := "loop.example/g01277/laws.FnExactKidsOf", spec := "fnExactKidsOf", apart := false, narrowed := true }
def FnExactKidsOfUptoSaid : Prop := fnExactKidsOfUptoRow.holds Try.pinned (OpenSpec.upto fnExactKidsOfSpec)

/-- 'laws.FnExactPoolOver', WHERE WHAT IT READS IS OF BULK AT MOST 1048576: true; the input reads as it did. -/
def fnExactPoolOverUptoRow : OpenClaim := { program := "ytfkbomcbcjjlbaa", sum := "7f547eacd726bdeefcf0d676a94d9bef179d74c10ebb4f45e204ac36ce82a37d", func := "loop.example/g01277/laws.FnExactPoolOver", spec := "fnExactPoolOver", unfollowed := true, recurses := true, apart := false, narrowed := true }
def FnExactPoolOverUptoSaid : Prop := fnExactPoolOverUptoRow.holds Try.pinned (OpenSpec.upto fnExactPoolOverSpec)

/-- 'laws.FnExactPoolPlay', WHERE WHAT IT READS IS OF BULK AT MOST 1048576: true; the input reads as it did. -/
def fnExactPoolPlayUptoRow : OpenClaim := { program := "ytfkbomcbcjjlbaa", sum := "7f547eacd726bdeefcf0d676a94d9bef179d74c10ebb4f45e204ac36ce82a37d", func := "loop.example/g01277/laws.FnExactPoolPlay", spec := "fnExactPoolPlay", recurses := true, apart := false, narrowed := true }
def FnExactPoolPlayUptoSaid : Prop := fnExactPoolPlayUptoRow.holds Try.pinned (OpenSpec.upto fnExactPoolPlaySpec)

/-- 'laws.FnExactPoolDrain', WHERE WHAT IT READS IS OF BULK AT MOST 1048576: true; the input reads as it did. -/
def fnExactPoolDrainUptoRow : OpenClaim := { program := "ytfkbomcbcjjlbaa", sum := "7f547eacd726bdeefcf0d676a94d9bef179d74c10ebb4f45e204ac36ce82a37d", func := "loop.example/g01277/laws.FnExactPoolDrain", spec := "fnExactPoolDrain", unfollowed := true, recurses := true, apart := false, narrowed := true }
def FnExactPoolDrainUptoSaid : Prop := fnExactPoolDrainUptoRow.holds Try.pinned (OpenSpec.upto fnExactPoolDrainSpec)

/-- 'laws.FnPool', WHERE WHAT IT READS IS OF BULK AT MOST 1048576: true; the input reads as it did. -/
def fnPoolUptoRow : OpenClaim := { program := "ytfkbomcbcjjlbaa", sum := "7f547eacd726bdeefcf0d676a94d9bef179d74c10ebb4f45e204ac36ce82a37d", func := "loop.example/g01277/laws.FnPool", spec := "fnPool", unfollowed := true, recurses := true, apart := false, narrowed := true }
def FnPoolUptoSaid : Prop := fnPoolUptoRow.holds Try.pinned (OpenSpec.upto fnPoolSpec)

end Rows
end Go.Proofs.Ytfkbomcbcjjlbaa
