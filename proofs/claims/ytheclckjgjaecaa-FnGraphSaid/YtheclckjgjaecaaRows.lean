/-
  No cell of these rows narrows 'for every input' (looked for: loops, veiled, ifaces, maps, wideKeys, modest, calm, conditions, laid).
  DERIVED. THE GIVEN ROWS OF THIS SEAT. 9 by the template 'for every input the law returns true; each argument reads behind the call as it read before'; 0 by the template 'total and deterministic' (their statements: YtheclckjgjaecaaTotals.lean).
  GIVEN WITH THE SEED: the statements are not yours to turn. If you find one false, say at which input.
  Laid BY PROGRAM, IN A SANDBOX (cutbox-rows.mjs): the forced cells as the released guide's own fill.sh prints them over the translation 364119bc7f8b3e09… (all of the seat's roots in one cut). By AI agents, Wed Nov 11 2026. No macro, syntax, notation, axiom, sorry.
-/
import Derived.Test.YtheclckjgjaecaaChecked
import GoSem.Claim
import GoSem.ClaimJoined
import GoSem.ClaimMapViews
import Derived.JoinedTies
import Derived.KernelRfl
namespace Go.Proofs.Ytheclckjgjaecaa
/- THE CELL 'sum', in the pinned program and in every row, IS THE sha256 OF THE DUMP (.gsa) THAT YtheclckjgjaecaaProg.lean LOADS. Nothing in Lean hashes anything: it is a label: what it is worth is what the hold of that sum in a sandbox is worth. -/
noncomputable def Try.pinned : Pinned := { name := "ytheclckjgjaecaa", sum := "364119bc7f8b3e09648b4c21d7002b89cb8641a99a0bbeb5705b62dfb4b4d697", checked := Try.checked }
namespace Rows
def none {H : Type} : Left H := { results := [], args := [] }

/-- 'laws.FnExactAccessOk': WHATEVER THE INPUT: true; the input reads as it did. -/
def fnExactAccessOkSpec : ChangeSpec := { name := "fnExactAccessOk", fn := fun _ => fun
  | [d] => { results := [.lit (.bool true)], args := [d] }
  | _ => none }
def fnExactAccessOkRow : OpenClaim := { program := "ytheclckjgjaecaa", sum := "364119bc7f8b3e09648b4c21d7002b89cb8641a99a0bbeb5705b62dfb4b4d697", func := "loop.example/g01277/laws.FnExactAccessOk", spec := "fnExactAccessOk", apart := false }
def FnExactAccessOkSaid : Prop := fnExactAccessOkRow.holds Try.pinned (OpenSpec.ofChange fnExactAccessOkSpec)

/-- ITS FALSE NEIGHBOUR: 'it returns false'. Refute it at one input. -/
def fnExactAccessOkWrong : ChangeSpec := { name := "fnExactAccessOk", fn := fun _ => fun
  | [d] => { results := [.lit (.bool false)], args := [d] }
  | _ => none }
def FnExactAccessOkWrongFalsely : Prop := fnExactAccessOkRow.holds Try.pinned (OpenSpec.ofChange fnExactAccessOkWrong)

/-- 'laws.FnExactEdges': WHATEVER THE INPUT: true; the input reads as it did. -/
def fnExactEdgesSpec : ChangeSpec := { name := "fnExactEdges", fn := fun _ => fun
  | [d] => { results := [.lit (.bool true)], args := [d] }
  | _ => none }
def fnExactEdgesRow : OpenClaim := { program := "ytheclckjgjaecaa", sum := "364119bc7f8b3e09648b4c21d7002b89cb8641a99a0bbeb5705b62dfb4b4d697", func := "loop.example/g01277/laws.FnExactEdges", spec := "fnExactEdges", apart := false }
def FnExactEdgesSaid : Prop := fnExactEdgesRow.holds Try.pinned (OpenSpec.ofChange fnExactEdgesSpec)

/-- ITS FALSE NEIGHBOUR: 'it returns false'. Refute it at one input. -/
def fnExactEdgesWrong : ChangeSpec := { name := "fnExactEdges", fn := fun _ => fun
  | [d] => { results := [.lit (.bool false)], args := [d] }
  | _ => none }
def FnExactEdgesWrongFalsely : Prop := fnExactEdgesRow.holds Try.pinned (OpenSpec.ofChange fnExactEdgesWrong)

/-- 'laws.FnExactTopo': WHATEVER THE INPUT: true; the input reads as it did. -/
def fnExactTopoSpec : ChangeSpec := { name := "fnExactTopo", fn := fun _ => fun
  | [d1, d2] => { results := [.lit (.bool true)], args := [d1, d2] }
  | _ => none }
def fnExactTopoRow : OpenClaim := { program := "ytheclckjgjaecaa", sum := "364119bc7f8b3e09648b4c21d7002b89cb8641a99a0bbeb5705b62dfb4b4d697", func := "loop.example/g01277/laws.FnExactTopo", spec := "fnExactTopo", unfollowed := true, recurses := true, apart := false }
def FnExactTopoSaid : Prop := fnExactTopoRow.holds Try.pinned (OpenSpec.ofChange fnExactTopoSpec)

/-- ITS FALSE NEIGHBOUR: 'it returns false'. Refute it at one input. -/
def fnExactTopoWrong : ChangeSpec := { name := "fnExactTopo", fn := fun _ => fun
  | [d1, d2] => { results := [.lit (.bool false)], args := [d1, d2] }
  | _ => none }
def FnExactTopoWrongFalsely : Prop := fnExactTopoRow.holds Try.pinned (OpenSpec.ofChange fnExactTopoWrong)

/-- 'laws.FnExactReadsFrom': WHATEVER THE INPUT: true; the input reads as it did. -/
def fnExactReadsFromSpec : ChangeSpec := { name := "fnExactReadsFrom", fn := fun _ => fun
  | [d] => { results := [.lit (.bool true)], args := [d] }
  | _ => none }
def fnExactReadsFromRow : OpenClaim := { program := "ytheclckjgjaecaa", sum := "364119bc7f8b3e09648b4c21d7002b89cb8641a99a0bbeb5705b62dfb4b4d697", func := "loop.example/g01277/laws.FnExactReadsFrom", spec := "fnExactReadsFrom", apart := false }
def FnExactReadsFromSaid : Prop := fnExactReadsFromRow.holds Try.pinned (OpenSpec.ofChange fnExactReadsFromSpec)

/-- ITS FALSE NEIGHBOUR: 'it returns false'. Refute it at one input. -/
def fnExactReadsFromWrong : ChangeSpec := { name := "fnExactReadsFrom", fn := fun _ => fun
  | [d] => { results := [.lit (.bool false)], args := [d] }
  | _ => none }
def FnExactReadsFromWrongFalsely : Prop := fnExactReadsFromRow.holds Try.pinned (OpenSpec.ofChange fnExactReadsFromWrong)

/-- 'laws.FnExactLastWriters': WHATEVER THE INPUT: true; the input reads as it did. -/
def fnExactLastWritersSpec : ChangeSpec := { name := "fnExactLastWriters", fn := fun _ => fun
  | [d] => { results := [.lit (.bool true)], args := [d] }
  | _ => none }
def fnExactLastWritersRow : OpenClaim := { program := "ytheclckjgjaecaa", sum := "364119bc7f8b3e09648b4c21d7002b89cb8641a99a0bbeb5705b62dfb4b4d697", func := "loop.example/g01277/laws.FnExactLastWriters", spec := "fnExactLastWriters", apart := false }
def FnExactLastWritersSaid : Prop := fnExactLastWritersRow.holds Try.pinned (OpenSpec.ofChange fnExactLastWritersSpec)

/-- ITS FALSE NEIGHBOUR: 'it returns false'. Refute it at one input. -/
def fnExactLastWritersWrong : ChangeSpec := { name := "fnExactLastWriters", fn := fun _ => fun
  | [d] => { results := [.lit (.bool false)], args := [d] }
  | _ => none }
def FnExactLastWritersWrongFalsely : Prop := fnExactLastWritersRow.holds Try.pinned (OpenSpec.ofChange fnExactLastWritersWrong)

/-- 'laws.FnExactInOrder': WHATEVER THE INPUT: true; the input reads as it did. -/
def fnExactInOrderSpec : ChangeSpec := { name := "fnExactInOrder", fn := fun _ => fun
  | [d1, d2] => { results := [.lit (.bool true)], args := [d1, d2] }
  | _ => none }
def fnExactInOrderRow : OpenClaim := { program := "ytheclckjgjaecaa", sum := "364119bc7f8b3e09648b4c21d7002b89cb8641a99a0bbeb5705b62dfb4b4d697", func := "loop.example/g01277/laws.FnExactInOrder", spec := "fnExactInOrder", apart := false }
def FnExactInOrderSaid : Prop := fnExactInOrderRow.holds Try.pinned (OpenSpec.ofChange fnExactInOrderSpec)

/-- ITS FALSE NEIGHBOUR: 'it returns false'. Refute it at one input. -/
def fnExactInOrderWrong : ChangeSpec := { name := "fnExactInOrder", fn := fun _ => fun
  | [d1, d2] => { results := [.lit (.bool false)], args := [d1, d2] }
  | _ => none }
def FnExactInOrderWrongFalsely : Prop := fnExactInOrderRow.holds Try.pinned (OpenSpec.ofChange fnExactInOrderWrong)

/-- 'laws.FnExactConflictFree': WHATEVER THE INPUT: true; the input reads as it did. -/
def fnExactConflictFreeSpec : ChangeSpec := { name := "fnExactConflictFree", fn := fun _ => fun
  | [d] => { results := [.lit (.bool true)], args := [d] }
  | _ => none }
def fnExactConflictFreeRow : OpenClaim := { program := "ytheclckjgjaecaa", sum := "364119bc7f8b3e09648b4c21d7002b89cb8641a99a0bbeb5705b62dfb4b4d697", func := "loop.example/g01277/laws.FnExactConflictFree", spec := "fnExactConflictFree", unfollowed := true, recurses := true, apart := false }
def FnExactConflictFreeSaid : Prop := fnExactConflictFreeRow.holds Try.pinned (OpenSpec.ofChange fnExactConflictFreeSpec)

/-- ITS FALSE NEIGHBOUR: 'it returns false'. Refute it at one input. -/
def fnExactConflictFreeWrong : ChangeSpec := { name := "fnExactConflictFree", fn := fun _ => fun
  | [d] => { results := [.lit (.bool false)], args := [d] }
  | _ => none }
def FnExactConflictFreeWrongFalsely : Prop := fnExactConflictFreeRow.holds Try.pinned (OpenSpec.ofChange fnExactConflictFreeWrong)

/-- 'laws.FnTopo': WHATEVER THE INPUT: true; the input reads as it did. -/
def fnTopoSpec : ChangeSpec := { name := "fnTopo", fn := fun _ => fun
  | [d] => { results := [.lit (.bool true)], args := [d] }
  | _ => none }
def fnTopoRow : OpenClaim := { program := "ytheclckjgjaecaa", sum := "364119bc7f8b3e09648b4c21d7002b89cb8641a99a0bbeb5705b62dfb4b4d697", func := "loop.example/g01277/laws.FnTopo", spec := "fnTopo", unfollowed := true, recurses := true, apart := false }
def FnTopoSaid : Prop := fnTopoRow.holds Try.pinned (OpenSpec.ofChange fnTopoSpec)

/-- ITS FALSE NEIGHBOUR: 'it returns false'. Refute it at one input. -/
def fnTopoWrong : ChangeSpec := { name := "fnTopo", fn := fun _ => fun
  | [d] => { results := [.lit (.bool false)], args := [d] }
  | _ => none }
def FnTopoWrongFalsely : Prop := fnTopoRow.holds Try.pinned (OpenSpec.ofChange fnTopoWrong)

/-- 'laws.FnGraph': WHATEVER THE INPUT: true; the input reads as it did. -/
def fnGraphSpec : ChangeSpec := { name := "fnGraph", fn := fun _ => fun
  | [d] => { results := [.lit (.bool true)], args := [d] }
  | _ => none }
def fnGraphRow : OpenClaim := { program := "ytheclckjgjaecaa", sum := "364119bc7f8b3e09648b4c21d7002b89cb8641a99a0bbeb5705b62dfb4b4d697", func := "loop.example/g01277/laws.FnGraph", spec := "fnGraph", unfollowed := true, recurses := true, apart := false }
def FnGraphSaid : Prop := fnGraphRow.holds Try.pinned (OpenSpec.ofChange fnGraphSpec)

/-- ITS FALSE NEIGHBOUR: 'it returns false'. Refute it at one input. -/
def fnGraphWrong : ChangeSpec := { name := "fnGraph", fn := fun _ => fun
  | [d] => { results := [.lit (.bool false)], args := [d] }
  | _ => none }
def FnGraphWrongFalsely : Prop := fnGraphRow.holds Try.pinned (OpenSpec.ofChange fnGraphWrong)

/- THE SECOND FORM. 'bulk': how many values and letters a reading holds, each counted each time it is reached (what is shared counts as often as it is met; a slice's spare places count too). A statement '..UptoSaid' is the law's where the arguments, and the package variables that the reading takes, are together of bulk at most 1048576: NARROWER than '..Said'. Prove '..Said' where nothing that the law and all that it calls make is longer than what came in: it says more and counts as full. Else prove '..UptoSaid'. A law counts once. -/
mutual
def uptoBulk {H : Type} : DataW H → Nat
  | .lit (.string bytes) => bytes.length + 1
  | .lit _ => 1
  | .nil => 1
  | .ptr d => uptoBulk d + 1
  | .slice elems spare => uptoBulkAll elems + uptoBulkAll spare + 1
  | .agg parts => uptoBulkAll parts + 1
  | .iface _ d => uptoBulk d + 1
  | .map entries => uptoBulkEntries entries + 1
  | .held _ => 1
def uptoBulkAll {H : Type} : List (DataW H) → Nat
  | [] => 0
  | d :: r => uptoBulk d + uptoBulkAll r
def uptoBulkEntries {H : Type} : List (Lit × DataW H) → Nat
  | [] => 0
  | x :: r => uptoBulkEntry x + uptoBulkEntries r
def uptoBulkEntry {H : Type} : Lit × DataW H → Nat
  | (.string bytes, d) => bytes.length + uptoBulk d + 1
  | (_, d) => uptoBulk d + 1
 end
def uptoSmall : (H : Type) → List (DataW H) → Bool := fun _ ds => decide (uptoBulkAll ds ≤ 1048576)
def OpenSpec.upto (s : _root_.Go.ChangeSpec) : _root_.Go.OpenSpec := { _root_.Go.OpenSpec.ofChange s with cond := some uptoSmall }

/-- 'laws.FnExactAccessOk', WHERE WHAT IT READS IS OF BULK AT MOST 1048576: true; the input reads as it did. -/
def fnExactAccessOkUptoRow : OpenClaim := { program := "ytheclckjgjaecaa", sum := "364119bc7f8b3e09648b4c21d7002b89cb8641a99a0bbeb5705b62dfb4b4d697", func := "loop.example/g01277/laws.FnExactAccessOk", spec := "fnExactAccessOk", apart := false, narrowed := true }
def FnExactAccessOkUptoSaid : Prop := fnExactAccessOkUptoRow.holds Try.pinned (OpenSpec.upto fnExactAccessOkSpec)

/-- 'laws.FnExactEdges', WHERE WHAT IT READS IS OF BULK AT MOST 1048576: true; the input reads as it did. -/
def fnExactEdgesUptoRow : OpenClaim := { program := "ytheclckjgjaecaa", sum := "364119bc7f8b3e09648b4c21d7002b89cb8641a99a0bbeb5705b62dfb4b4d697", func := "loop.example/g01277/laws.FnExactEdges", spec := "fnExactEdges", apart := false, narrowed := true }
def FnExactEdgesUptoSaid : Prop := fnExactEdgesUptoRow.holds Try.pinned (OpenSpec.upto fnExactEdgesSpec)

/-- 'laws.FnExactTopo', WHERE WHAT IT READS IS OF BULK AT MOST 1048576: true; the input reads as it did. -/
def fnExactTopoUptoRow : OpenClaim := { program := "ytheclckjgjaecaa", sum := "364119bc7f8b3e09648b4c21d7002b89cb8641a99a0bbeb5705b62dfb4b4d697", func := "loop.example/g01277/laws.FnExactTopo", spec := "fnExactTopo", unfollowed := true, recurses := true, apart := false, narrowed := true }
def FnExactTopoUptoSaid : Prop := fnExactTopoUptoRow.holds Try.pinned (OpenSpec.upto fnExactTopoSpec)

/-- 'laws.FnExactReadsFrom', WHERE WHAT IT READS IS OF BULK AT MOST 1048576: true; the input reads as it did. -/
def fnExactReadsFromUptoRow : OpenClaim := { program := "ytheclckjgjaecaa", sum := "364119bc7f8b3e09648b4c21d7002b89cb8641a99a0bbeb5705b62dfb4b4d697", func := "loop.example/g01277/laws.FnExactReadsFrom", spec := "fnExactReadsFrom", apart := false, narrowed := true }
def FnExactReadsFromUptoSaid : Prop := fnExactReadsFromUptoRow.holds Try.pinned (OpenSpec.upto fnExactReadsFromSpec)

/-- 'laws.FnExactLastWriters', WHERE WHAT IT READS IS OF BULK AT MOST 1048576: true; the input reads as it did. -/
def fnExactLastWritersUptoRow : OpenClaim := { program := "ytheclckjgjaecaa", sum := "364119bc7f8b3e09648b4c21d7002b89cb8641a99a0bbeb5705b62dfb4b4d697", func := "loop.example/g01277/laws.FnExactLastWriters", spec := "fnExactLastWriters", apart := false, narrowed := true }
def FnExactLastWritersUptoSaid : Prop := fnExactLastWritersUptoRow.holds Try.pinned (OpenSpec.upto fnExactLastWritersSpec)

/-- 'laws.FnExactInOrder', WHERE WHAT IT READS IS OF BULK AT MOST 1048576: true; the input reads as it did. -/
def fnExactInOrderUptoRow : OpenClaim := { program := "ytheclckjgjaecaa", sum := "364119bc7f8b3e09648b4c21d7002b89cb8641a99a0bbeb5705b62dfb4b4d697", func := "loop.example/g01277/laws.FnExactInOrder", spec := "fnExactInOrder", apart := false, narrowed := true }
def FnExactInOrderUptoSaid : Prop := fnExactInOrderUptoRow.holds Try.pinned (OpenSpec.upto fnExactInOrderSpec)

/-- 'laws.FnExactConflictFree', WHERE WHAT IT READS IS OF BULK AT MOST 1048576: true; the input reads as it did. -/
def fnExactConflictFreeUptoRow : OpenClaim := { program := "ytheclckjgjaecaa", sum := "364119bc7f8b3e09648b4c21d7002b89cb8641a99a0bbeb5705b62dfb4b4d697", func := "loop.example/g01277/laws.FnExactConflictFree", spec := "fnExactConflictFree", unfollowed := true, recurses := true, apart := false, narrowed := true }
def FnExactConflictFreeUptoSaid : Prop := fnExactConflictFreeUptoRow.holds Try.pinned (OpenSpec.upto fnExactConflictFreeSpec)

/-- 'laws.FnTopo', WHERE WHAT IT READS IS OF BULK AT MOST 1048576: true; the input reads as it did. -/
def fnTopoUptoRow : OpenClaim := { program := "ytheclckjgjaecaa", sum := "364119bc7f8b3e09648b4c21d7002b89cb8641a99a0bbeb5705b62dfb4b4d697", func := "loop.example/g01277/laws.FnTopo", spec := "fnTopo", unfollowed := true, recurses := true, apart := false, narrowed := true }
def FnTopoUptoSaid : Prop := fnTopoUptoRow.holds Try.pinned (OpenSpec.upto fnTopoSpec)

/-- 'laws.FnGraph', WHERE WHAT IT READS IS OF BULK AT MOST 1048576: true; the input reads as it did. -/
def fnGraphUptoRow : OpenClaim := { program := "ytheclckjgjaecaa", sum := "364119bc7f8b3e09648b4c21d7002b89cb8641a99a0bbeb5705b62dfb4b4d697", func := "loop.example/g01277/laws.FnGraph", spec := "fnGraph", unfollowed := true, recurses := true, apart := false, narrowed := true }
def FnGraphUptoSaid : Prop := fnGraphUptoRow.holds Try.pinned (OpenSpec.upto fnGraphSpec)

end Rows
end Go.Proofs.Ytheclckjgjaecaa
