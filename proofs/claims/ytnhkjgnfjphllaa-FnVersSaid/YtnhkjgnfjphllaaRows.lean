/-
  No cell of these rows narrows 'for every input' (looked for: loops, veiled, ifaces, maps, wideKeys, modest, calm, conditions, laid).
  DERIVED. THE GIVEN ROWS OF THIS SEAT. 8 by the template 'for every input the law returns true; each argument reads behind the call as it read before'; 0 by the template 'total and deterministic' (their statements: YtnhkjgnfjphllaaTotals.lean).
  GIVEN WITH THE SEED: the statements are not yours to turn. If you find one false, say at which input.
  Laid BY PROGRAM, IN A SANDBOX (cutbox-rows.mjs): the forced cells as the released guide's own fill.sh prints them over the translation 02f1ea2eeef81353… (all of the seat's roots in one cut). By AI agents, Wed Nov 11 2026. No macro, syntax, notation, axiom, sorry.
-/
import Derived.Test.YtnhkjgnfjphllaaChecked
import GoSem.Claim
import GoSem.ClaimJoined
import GoSem.ClaimMapViews
import Derived.JoinedTies
import Derived.KernelRfl
namespace Go.Proofs.Ytnhkjgnfjphllaa
/- THE CELL 'sum', in the pinned program and in every row, IS THE sha256 OF THE DUMP (.gsa) THAT YtnhkjgnfjphllaaProg.lean LOADS. Nothing in Lean hashes anything: it is a label: what it is worth is what the hold of that sum in a sandbox is worth. -/
noncomputable def Try.pinned : Pinned := { name := "ytnhkjgnfjphllaa", sum := "02f1ea2eeef81353bfaf9b68cde17a32753bacd802c0a76530a60637c543c1bd", checked := Try.checked }
namespace Rows
def none {H : Type} : Left H := { results := [], args := [] }

/-- 'laws.FnExactVersNew': WHATEVER THE INPUT: true; the input reads as it did. -/
def fnExactVersNewSpec : ChangeSpec := { name := "fnExactVersNew", fn := fun _ => fun
  | [d] => { results := [.lit (.bool true)], args := [d] }
  | _ => none }
def fnExactVersNewRow : OpenClaim := { program := "ytnhkjgnfjphllaa", sum := "02f1ea2eeef81353bfaf9b68cde17a32753bacd802c0a76530a60637c543c1bd", func := "loop.example/g01277/laws.FnExactVersNew", spec := "fnExactVersNew", apart := false }
def FnExactVersNewSaid : Prop := fnExactVersNewRow.holds Try.pinned (OpenSpec.ofChange fnExactVersNewSpec)

/-- ITS FALSE NEIGHBOUR: 'it returns false'. Refute it at one input. -/
def fnExactVersNewWrong : ChangeSpec := { name := "fnExactVersNew", fn := fun _ => fun
  | [d] => { results := [.lit (.bool false)], args := [d] }
  | _ => none }
def FnExactVersNewWrongFalsely : Prop := fnExactVersNewRow.holds Try.pinned (OpenSpec.ofChange fnExactVersNewWrong)

/-- 'laws.FnExactVersOk': WHATEVER THE INPUT: true; the input reads as it did. -/
def fnExactVersOkSpec : ChangeSpec := { name := "fnExactVersOk", fn := fun _ => fun
  | [d] => { results := [.lit (.bool true)], args := [d] }
  | _ => none }
def fnExactVersOkRow : OpenClaim := { program := "ytnhkjgnfjphllaa", sum := "02f1ea2eeef81353bfaf9b68cde17a32753bacd802c0a76530a60637c543c1bd", func := "loop.example/g01277/laws.FnExactVersOk", spec := "fnExactVersOk", apart := false }
def FnExactVersOkSaid : Prop := fnExactVersOkRow.holds Try.pinned (OpenSpec.ofChange fnExactVersOkSpec)

/-- ITS FALSE NEIGHBOUR: 'it returns false'. Refute it at one input. -/
def fnExactVersOkWrong : ChangeSpec := { name := "fnExactVersOk", fn := fun _ => fun
  | [d] => { results := [.lit (.bool false)], args := [d] }
  | _ => none }
def FnExactVersOkWrongFalsely : Prop := fnExactVersOkRow.holds Try.pinned (OpenSpec.ofChange fnExactVersOkWrong)

/-- 'laws.FnExactVersLast': WHATEVER THE INPUT: true; the input reads as it did. -/
def fnExactVersLastSpec : ChangeSpec := { name := "fnExactVersLast", fn := fun _ => fun
  | [d] => { results := [.lit (.bool true)], args := [d] }
  | _ => none }
def fnExactVersLastRow : OpenClaim := { program := "ytnhkjgnfjphllaa", sum := "02f1ea2eeef81353bfaf9b68cde17a32753bacd802c0a76530a60637c543c1bd", func := "loop.example/g01277/laws.FnExactVersLast", spec := "fnExactVersLast", apart := false }
def FnExactVersLastSaid : Prop := fnExactVersLastRow.holds Try.pinned (OpenSpec.ofChange fnExactVersLastSpec)

/-- ITS FALSE NEIGHBOUR: 'it returns false'. Refute it at one input. -/
def fnExactVersLastWrong : ChangeSpec := { name := "fnExactVersLast", fn := fun _ => fun
  | [d] => { results := [.lit (.bool false)], args := [d] }
  | _ => none }
def FnExactVersLastWrongFalsely : Prop := fnExactVersLastRow.holds Try.pinned (OpenSpec.ofChange fnExactVersLastWrong)

/-- 'laws.FnExactVersRead': WHATEVER THE INPUT: true; the input reads as it did. -/
def fnExactVersReadSpec : ChangeSpec := { name := "fnExactVersRead", fn := fun _ => fun
  | [d1, d2, d3] => { results := [.lit (.bool true)], args := [d1, d2, d3] }
  | _ => none }
def fnExactVersReadRow : OpenClaim := { program := "ytnhkjgnfjphllaa", sum := "02f1ea2eeef81353bfaf9b68cde17a32753bacd802c0a76530a60637c543c1bd", func := "loop.example/g01277/laws.FnExactVersRead", spec := "fnExactVersRead", apart := false }
def FnExactVersReadSaid : Prop := fnExactVersReadRow.holds Try.pinned (OpenSpec.ofChange fnExactVersReadSpec)

/-- ITS FALSE NEIGHBOUR: 'it returns false'. Refute it at one input. -/
def fnExactVersReadWrong : ChangeSpec := { name := "fnExactVersRead", fn := fun _ => fun
  | [d1, d2, d3] => { results := [.lit (.bool false)], args := [d1, d2, d3] }
  | _ => none }
def FnExactVersReadWrongFalsely : Prop := fnExactVersReadRow.holds Try.pinned (OpenSpec.ofChange fnExactVersReadWrong)

/-- 'laws.FnExactVersState': WHATEVER THE INPUT: true; the input reads as it did. -/
def fnExactVersStateSpec : ChangeSpec := { name := "fnExactVersState", fn := fun _ => fun
  | [d1, d2] => { results := [.lit (.bool true)], args := [d1, d2] }
  | _ => none }
def fnExactVersStateRow : OpenClaim := { program := "ytnhkjgnfjphllaa", sum := "02f1ea2eeef81353bfaf9b68cde17a32753bacd802c0a76530a60637c543c1bd", func := "loop.example/g01277/laws.FnExactVersState", spec := "fnExactVersState", apart := false }
def FnExactVersStateSaid : Prop := fnExactVersStateRow.holds Try.pinned (OpenSpec.ofChange fnExactVersStateSpec)

/-- ITS FALSE NEIGHBOUR: 'it returns false'. Refute it at one input. -/
def fnExactVersStateWrong : ChangeSpec := { name := "fnExactVersState", fn := fun _ => fun
  | [d1, d2] => { results := [.lit (.bool false)], args := [d1, d2] }
  | _ => none }
def FnExactVersStateWrongFalsely : Prop := fnExactVersStateRow.holds Try.pinned (OpenSpec.ofChange fnExactVersStateWrong)

/-- 'laws.FnExactVersTrim': WHATEVER THE INPUT: true; the input reads as it did. -/
def fnExactVersTrimSpec : ChangeSpec := { name := "fnExactVersTrim", fn := fun _ => fun
  | [d1, d2] => { results := [.lit (.bool true)], args := [d1, d2] }
  | _ => none }
def fnExactVersTrimRow : OpenClaim := { program := "ytnhkjgnfjphllaa", sum := "02f1ea2eeef81353bfaf9b68cde17a32753bacd802c0a76530a60637c543c1bd", func := "loop.example/g01277/laws.FnExactVersTrim", spec := "fnExactVersTrim", unfollowed := true, recurses := true, apart := false }
def FnExactVersTrimSaid : Prop := fnExactVersTrimRow.holds Try.pinned (OpenSpec.ofChange fnExactVersTrimSpec)

/-- ITS FALSE NEIGHBOUR: 'it returns false'. Refute it at one input. -/
def fnExactVersTrimWrong : ChangeSpec := { name := "fnExactVersTrim", fn := fun _ => fun
  | [d1, d2] => { results := [.lit (.bool false)], args := [d1, d2] }
  | _ => none }
def FnExactVersTrimWrongFalsely : Prop := fnExactVersTrimRow.holds Try.pinned (OpenSpec.ofChange fnExactVersTrimWrong)

/-- 'laws.FnExactVersPut': WHATEVER THE INPUT: true; the input reads as it did. -/
def fnExactVersPutSpec : ChangeSpec := { name := "fnExactVersPut", fn := fun _ => fun
  | [d1, d2, d3] => { results := [.lit (.bool true)], args := [d1, d2, d3] }
  | _ => none }
def fnExactVersPutRow : OpenClaim := { program := "ytnhkjgnfjphllaa", sum := "02f1ea2eeef81353bfaf9b68cde17a32753bacd802c0a76530a60637c543c1bd", func := "loop.example/g01277/laws.FnExactVersPut", spec := "fnExactVersPut", unfollowed := true, recurses := true, apart := false }
def FnExactVersPutSaid : Prop := fnExactVersPutRow.holds Try.pinned (OpenSpec.ofChange fnExactVersPutSpec)

/-- ITS FALSE NEIGHBOUR: 'it returns false'. Refute it at one input. -/
def fnExactVersPutWrong : ChangeSpec := { name := "fnExactVersPut", fn := fun _ => fun
  | [d1, d2, d3] => { results := [.lit (.bool false)], args := [d1, d2, d3] }
  | _ => none }
def FnExactVersPutWrongFalsely : Prop := fnExactVersPutRow.holds Try.pinned (OpenSpec.ofChange fnExactVersPutWrong)

/-- 'laws.FnVers': WHATEVER THE INPUT: true; the input reads as it did. -/
def fnVersSpec : ChangeSpec := { name := "fnVers", fn := fun _ => fun
  | [d] => { results := [.lit (.bool true)], args := [d] }
  | _ => none }
def fnVersRow : OpenClaim := { program := "ytnhkjgnfjphllaa", sum := "02f1ea2eeef81353bfaf9b68cde17a32753bacd802c0a76530a60637c543c1bd", func := "loop.example/g01277/laws.FnVers", spec := "fnVers", unfollowed := true, recurses := true, apart := false }
def FnVersSaid : Prop := fnVersRow.holds Try.pinned (OpenSpec.ofChange fnVersSpec)

/-- ITS FALSE NEIGHBOUR: 'it returns false'. Refute it at one input. -/
def fnVersWrong : ChangeSpec := { name := "fnVers", fn := fun _ => fun
  | [d] => { results := [.lit (.bool false)], args := [d] }
  | _ => none }
def FnVersWrongFalsely : Prop := fnVersRow.holds Try.pinned (OpenSpec.ofChange fnVersWrong)

/- THE SECOND FORM. 'bulk': how many values and letters a reading holds, each counted each time it is reached (what is shared counts as often as it is met; a slice's spare places count too). A statement '..UptoSaid' is the law's where the arguments, and the package variables that the reading takes, are together of bulk at most 1048576: NARROWER than '..Said'. Prove '..Said' where nothing that the law and all that it calls make is longer than what came in: it says more and counts as full. Else prove '..UptoSaid'. A law counts once. -/
mutual
def uptoBulk {H : Type} : DataW H → Nat
  | .lit (.string bytes) => bytes.length + 1
  | .lit _ => 1
  | .nil => 1
  | .ptr d => uptoBulk d + 1
  | .slice elems spare => uptoBulkAll elems + uptoBulkAll spare + 1
  | .agg parts => uptoBulkAll parts + 1
  | .iface _ d => uptoBulk d + 1
  | .map entries => uptoBulkEntries entries + 1
  | .held _ => 1
def uptoBulkAll {H : Type} : List (DataW H) → Nat
  | [] => 0
  | d :: r => uptoBulk d + uptoBulkAll r
def uptoBulkEntries {H : Type} : List (Lit × DataW H) → Nat
  | [] => 0
  | x :: r => uptoBulkEntry x + uptoBulkEntries r
def uptoBulkEntry {H : Type} : Lit × DataW H → Nat
  | (.string bytes, d) => bytes.length + uptoBulk d + 1
  | (_, d) => uptoBulk d + 1
 end
def uptoSmall : (H : Type) → List (DataW H) → Bool := fun _ ds => decide (uptoBulkAll ds ≤ 1048576)
def OpenSpec.upto (s : _root_.Go.ChangeSpec) : _root_.Go.OpenSpec := { _root_.Go.OpenSpec.ofChange s with cond := some uptoSmall }

/-- 'laws.FnExactVersNew', WHERE WHAT IT READS IS OF BULK AT MOST 1048576: true; the input reads as it did. -/
def fnExactVersNewUptoRow : OpenClaim := { program := "ytnhkjgnfjphllaa", sum := "02f1ea2eeef81353bfaf9b68cde17a32753bacd802c0a76530a60637c543c1bd", func := "loop.example/g01277/laws.FnExactVersNew", spec := "fnExactVersNew", apart := false, narrowed := true }
def FnExactVersNewUptoSaid : Prop := fnExactVersNewUptoRow.holds Try.pinned (OpenSpec.upto fnExactVersNewSpec)

/-- 'laws.FnExactVersOk', WHERE WHAT IT READS IS OF BULK AT MOST 1048576: true; the input reads as it did. -/
def fnExactVersOkUptoRow : OpenClaim := { program := "ytnhkjgnfjphllaa", sum := "02f1ea2eeef81353bfaf9b68cde17a32753bacd802c0a76530a60637c543c1bd", func := "loop.example/g01277/laws.FnExactVersOk", spec := "fnExactVersOk", apart := false, narrowed := true }
def FnExactVersOkUptoSaid : Prop := fnExactVersOkUptoRow.holds Try.pinned (OpenSpec.upto fnExactVersOkSpec)

/-- 'laws.FnExactVersLast', WHERE WHAT IT READS IS OF BULK AT MOST 1048576: true; the input reads as it did. -/
def fnExactVersLastUptoRow : OpenClaim := { program := "ytnhkjgnfjphllaa", sum := "02f1ea2eeef81353bfaf9b68cde17a32753bacd802c0a76530a60637c543c1bd", func := "loop.example/g01277/laws.FnExactVersLast", spec := "fnExactVersLast", apart := false, narrowed := true }
def FnExactVersLastUptoSaid : Prop := fnExactVersLastUptoRow.holds Try.pinned (OpenSpec.upto fnExactVersLastSpec)

/-- 'laws.FnExactVersRead', WHERE WHAT IT READS IS OF BULK AT MOST 1048576: true; the input reads as it did. -/
def fnExactVersReadUptoRow : OpenClaim := { program := "ytnhkjgnfjphllaa", sum := "02f1ea2eeef81353bfaf9b68cde17a32753bacd802c0a76530a60637c543c1bd", func := "loop.example/g01277/laws.FnExactVersRead", spec := "fnExactVersRead", apart := false, narrowed := true }
def FnExactVersReadUptoSaid : Prop := fnExactVersReadUptoRow.holds Try.pinned (OpenSpec.upto fnExactVersReadSpec)

/-- 'laws.FnExactVersState', WHERE WHAT IT READS IS OF BULK AT MOST 1048576: true; the input reads as it did. -/
def fnExactVersStateUptoRow : OpenClaim := { program := "ytnhkjgnfjphllaa", sum := "02f1ea2eeef81353bfaf9b68cde17a32753bacd802c0a76530a60637c543c1bd", func := "loop.example/g01277/laws.FnExactVersState", spec := "fnExactVersState", apart := false, narrowed := true }
def FnExactVersStateUptoSaid : Prop := fnExactVersStateUptoRow.holds Try.pinned (OpenSpec.upto fnExactVersStateSpec)

/-- 'laws.FnExactVersTrim', WHERE WHAT IT READS IS OF BULK AT MOST 1048576: true; the input reads as it did. -/
def fnExactVersTrimUptoRow : OpenClaim := { program := "ytnhkjgnfjphllaa", sum := "02f1ea2eeef81353bfaf9b68cde17a32753bacd802c0a76530a60637c543c1bd", func := "loop.example/g01277/laws.FnExactVersTrim", spec := "fnExactVersTrim", unfollowed := true, recurses := true, apart := false, narrowed := true }
def FnExactVersTrimUptoSaid : Prop := fnExactVersTrimUptoRow.holds Try.pinned (OpenSpec.upto fnExactVersTrimSpec)

/-- 'laws.FnExactVersPut', WHERE WHAT IT READS IS OF BULK AT MOST 1048576: true; the input reads as it did. -/
def fnExactVersPutUptoRow : OpenClaim := { program := "ytnhkjgnfjphllaa", sum := "02f1ea2eeef81353bfaf9b68cde17a32753bacd802c0a76530a60637c543c1bd", func := "loop.example/g01277/laws.FnExactVersPut", spec := "fnExactVersPut", unfollowed := true, recurses := true, apart := false, narrowed := true }
def FnExactVersPutUptoSaid : Prop := fnExactVersPutUptoRow.holds Try.pinned (OpenSpec.upto fnExactVersPutSpec)

/-- 'laws.FnVers', WHERE WHAT IT READS IS OF BULK AT MOST 1048576: true; the input reads as it did. -/
def fnVersUptoRow : OpenClaim := { program := "ytnhkjgnfjphllaa", sum := "02f1ea2eeef81353bfaf9b68cde17a32753bacd802c0a76530a60637c543c1bd", func := "loop.example/g01277/laws.FnVers", spec := "fnVers", unfollowed := true, recurses := true, apart := false, narrowed := true }
def FnVersUptoSaid : Prop := fnVersUptoRow.holds Try.pinned (OpenSpec.upto fnVersSpec)

end Rows
end Go.Proofs.Ytnhkjgnfjphllaa
