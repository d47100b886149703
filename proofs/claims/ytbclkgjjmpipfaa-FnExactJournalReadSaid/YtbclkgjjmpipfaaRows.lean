/-
  No cell of these rows narrows 'for every input' (looked for: loops, veiled, ifaces, maps, wideKeys, modest, calm, conditions, laid).
  DERIVED. THE GIVEN ROWS OF THIS SEAT. 7 by the template 'for every input the law returns true; each argument reads behind the call as it read before'; 0 by the template 'total and deterministic' (their statements: YtbclkgjjmpipfaaTotals.lean).
  GIVEN WITH THE SEED: the statements are not yours to turn. If you find one false, say at which input.
  Laid BY PROGRAM, IN A SANDBOX (cutbox-rows.mjs): the forced cells as the released guide's own fill.sh prints them over the translation 9ef6e1bfcc05cae5… (all of the seat's roots in one cut). By AI agents, Wed Nov 11 2026. No macro, syntax, notation, axiom, sorry.
-/
import Derived.Test.YtbclkgjjmpipfaaChecked
import GoSem.Claim
import GoSem.ClaimJoined
import GoSem.ClaimMapViews
import Derived.JoinedTies
import Derived.KernelRfl
namespace Go.Proofs.Ytbclkgjjmpipfaa
/- THE CELL 'sum', in the pinned program and in every row, IS THE sha256 OF THE DUMP (.gsa) THAT YtbclkgjjmpipfaaProg.lean LOADS. Nothing in Lean hashes anything: it is a label: what it is worth is what the hold of that sum in a sandbox is worth. -/
noncomputable def Try.pinned : Pinned := { name := "ytbclkgjjmpipfaa", sum := "9ef6e1bfcc05cae576120272ca5e0d054b2bbc008b9d693d746b88efde859f7e", checked := Try.checked }
namespace Rows
def none {H : Type} : Left H := { results := [], args := [] }

/-- 'laws.FnExactFrame': WHATEVER THE INPUT: true; the input reads as it did. -/
def fnExactFrameSpec : ChangeSpec := { name := "fnExactFrame", fn := fun _ => fun
  | [d] => { results := [.lit (.bool true)], args := [d] }
  | _ => none }
def fnExactFrameRow : OpenClaim := { program := "ytbclkgjjmpipfaa", sum := "9ef6e1bfcc05cae576120272ca5e0d054b2bbc008b9d693d746b88efde859f7e", func := "loop.example/g01277/laws.FnExactFrame", spec := "fnExactFrame", apart := false }
def FnExactFrameSaid : Prop := fnExactFrameRow.holds Try.pinned (OpenSpec.ofChange fnExactFrameSpec)

/-- ITS FALSE NEIGHBOUR: 'it returns false'. Refute it at one input. -/
def fnExactFrameWrong : ChangeSpec := { name := "fnExactFrame", fn := fun _ => fun
  | [d] => { results := [.lit (.bool false)], args := [d] }
  | _ => none }
def FnExactFrameWrongFalsely : Prop := fnExactFrameRow.holds Try.pinned (OpenSpec.ofChange fnExactFrameWrong)

/-- 'laws.FnExactUnframe': WHATEVER THE INPUT: true; the input reads as it did. -/
def fnExactUnframeSpec : ChangeSpec := { name := "fnExactUnframe", fn := fun _ => fun
  | [d] => { results := [.lit (.bool true)], args := [d] }
  | _ => none }
def fnExactUnframeRow : OpenClaim := { program := "ytbclkgjjmpipfaa", sum := "9ef6e1bfcc05cae576120272ca5e0d054b2bbc008b9d693d746b88efde859f7e", func := "loop.example/g01277/laws.FnExactUnframe", spec := "fnExactUnframe", apart := false }
def FnExactUnframeSaid : Prop := fnExactUnframeRow.holds Try.pinned (OpenSpec.ofChange fnExactUnframeSpec)

/-- ITS FALSE NEIGHBOUR: 'it returns false'. Refute it at one input. -/
def fnExactUnframeWrong : ChangeSpec := { name := "fnExactUnframe", fn := fun _ => fun
  | [d] => { results := [.lit (.bool false)], args := [d] }
  | _ => none }
def FnExactUnframeWrongFalsely : Prop := fnExactUnframeRow.holds Try.pinned (OpenSpec.ofChange fnExactUnframeWrong)

/-- 'laws.FnExactShowWrote': WHATEVER THE INPUT: true; the input reads as it did. -/
def fnExactShowWroteSpec : ChangeSpec := { name := "fnExactShowWrote", fn := fun _ => fun
  | [d] => { results := [.lit (.bool true)], args := [d] }
  | _ => none }
def fnExactShowWroteRow : OpenClaim := { program := "ytbclkgjjmpipfaa", sum := "9ef6e1bfcc05cae576120272ca5e0d054b2bbc008b9d693d746b88efde859f7e", func := "loop.example/g01277/laws.FnExactShowWrote", spec := "fnExactShowWrote", apart := false }
def FnExactShowWroteSaid : Prop := fnExactShowWroteRow.holds Try.pinned (OpenSpec.ofChange fnExactShowWroteSpec)

/-- ITS FALSE NEIGHBOUR: 'it returns false'. Refute it at one input. -/
def fnExactShowWroteWrong : ChangeSpec := { name := "fnExactShowWrote", fn := fun _ => fun
  | [d] => { results := [.lit (.bool false)], args := [d] }
  | _ => none }
def FnExactShowWroteWrongFalsely : Prop := fnExactShowWroteRow.holds Try.pinned (OpenSpec.ofChange fnExactShowWroteWrong)

/-- 'laws.FnExactReadWrote': WHATEVER THE INPUT: true; the input reads as it did. -/
def fnExactReadWroteSpec : ChangeSpec := { name := "fnExactReadWrote", fn := fun _ => fun
  | [d] => { results := [.lit (.bool true)], args := [d] }
  | _ => none }
def fnExactReadWroteRow : OpenClaim := { program := "ytbclkgjjmpipfaa", sum := "9ef6e1bfcc05cae576120272ca5e0d054b2bbc008b9d693d746b88efde859f7e", func := "loop.example/g01277/laws.FnExactReadWrote", spec := "fnExactReadWrote", apart := false }
def FnExactReadWroteSaid : Prop := fnExactReadWroteRow.holds Try.pinned (OpenSpec.ofChange fnExactReadWroteSpec)

/-- ITS FALSE NEIGHBOUR: 'it returns false'. Refute it at one input. -/
def fnExactReadWroteWrong : ChangeSpec := { name := "fnExactReadWrote", fn := fun _ => fun
  | [d] => { results := [.lit (.bool false)], args := [d] }
  | _ => none }
def FnExactReadWroteWrongFalsely : Prop := fnExactReadWroteRow.holds Try.pinned (OpenSpec.ofChange fnExactReadWroteWrong)

/-- 'laws.FnExactJournalRead': WHATEVER THE INPUT: true; the input reads as it did. -/
def fnExactJournalReadSpec : ChangeSpec := { name := "fnExactJournalRead", fn := fun _ => fun
  | [d] => { results := [.lit (.bool true)], args := [d] }
  | _ => none }
def fnExactJournalReadRow : OpenClaim := { program := "ytbclkgjjmpipfaa", sum := "9ef6e1bfcc05cae576120272ca5e0d054b2bbc008b9d693d746b88efde859f7e", func := "loop.example/g01277/laws.FnExactJournalRead", spec := "fnExactJournalRead", apart := false }
def FnExactJournalReadSaid : Prop := fnExactJournalReadRow.holds Try.pinned (OpenSpec.ofChange fnExactJournalReadSpec)

/-- ITS FALSE NEIGHBOUR: 'it returns false'. Refute it at one input. -/
def fnExactJournalReadWrong : ChangeSpec := { name := "fnExactJournalRead", fn := fun _ => fun
  | [d] => { results := [.lit (.bool false)], args := [d] }
  | _ => none }
def FnExactJournalReadWrongFalsely : Prop := fnExactJournalReadRow.holds Try.pinned (OpenSpec.ofChange fnExactJournalReadWrong)

/-- 'laws.FnExactJournalAdd': WHATEVER THE INPUT: true; the input reads as it did. -/
def fnExactJournalAddSpec : ChangeSpec := { name := "fnExactJournalAdd", fn := fun _ => fun
  | [d1, d2] => { results := [.lit (.bool true)], args := [d1, d2] }
  | _ => none }
def fnExactJournalAddRow : OpenClaim := { program := "ytbclkgjjmpipfaa", sum := "9ef6e1bfcc05cae576120272ca5e0d054b2bbc008b9d693d746b88efde859f7e", func := "loop.example/g01277/laws.FnExactJournalAdd", spec := "fnExactJournalAdd", apart := false }
def FnExactJournalAddSaid : Prop := fnExactJournalAddRow.holds Try.pinned (OpenSpec.ofChange fnExactJournalAddSpec)

/-- ITS FALSE NEIGHBOUR: 'it returns false'. Refute it at one input. -/
def fnExactJournalAddWrong : ChangeSpec := { name := "fnExactJournalAdd", fn := fun _ => fun
  | [d1, d2] => { results := [.lit (.bool false)], args := [d1, d2] }
  | _ => none }
def FnExactJournalAddWrongFalsely : Prop := fnExactJournalAddRow.holds Try.pinned (OpenSpec.ofChange fnExactJournalAddWrong)

/-- 'laws.FnExactJournalState': WHATEVER THE INPUT: true; the input reads as it did. -/
def fnExactJournalStateSpec : ChangeSpec := { name := "fnExactJournalState", fn := fun _ => fun
  | [d1, d2] => { results := [.lit (.bool true)], args := [d1, d2] }
  | _ => none }
def fnExactJournalStateRow : OpenClaim := { program := "ytbclkgjjmpipfaa", sum := "9ef6e1bfcc05cae576120272ca5e0d054b2bbc008b9d693d746b88efde859f7e", func := "loop.example/g01277/laws.FnExactJournalState", spec := "fnExactJournalState", apart := false }
def FnExactJournalStateSaid : Prop := fnExactJournalStateRow.holds Try.pinned (OpenSpec.ofChange fnExactJournalStateSpec)

/-- ITS FALSE NEIGHBOUR: 'it returns false'. Refute it at one input. -/
def fnExactJournalStateWrong : ChangeSpec := { name := "fnExactJournalState", fn := fun _ => fun
  | [d1, d2] => { results := [.lit (.bool false)], args := [d1, d2] }
  | _ => none }
def FnExactJournalStateWrongFalsely : Prop := fnExactJournalStateRow.holds Try.pinned (OpenSpec.ofChange fnExactJournalStateWrong)

/- THE SECOND FORM. 'bulk': how many values and letters a reading holds, each counted each time it is reached (what is shared counts as often as it is met; a slice's spare places count too). A statement '..UptoSaid' is the law's where the arguments, and the package variables that the reading takes, are together of bulk at most 1048576: NARROWER than '..Said'. Prove '..Said' where nothing that the law and all that it calls make is longer than what came in: it says more and counts as full. Else prove '..UptoSaid'. A law counts once. -/
mutual
def uptoBulk {H : Type} : DataW H → Nat
  | .lit (.string bytes) => bytes.length + 1
  | .lit _ => 1
  | .nil => 1
  | .ptr d => uptoBulk d + 1
  | .slice elems spare => uptoBulkAll elems + uptoBulkAll spare + 1
  | .agg parts => uptoBulkAll parts + 1
  | .iface _ d => uptoBulk d + 1
  | .map entries => uptoBulkEntries entries + 1
  | .held _ => 1
def uptoBulkAll {H : Type} : List (DataW H) → Nat
  | [] => 0
  | d :: r => uptoBulk d + uptoBulkAll r
def uptoBulkEntries {H : Type} : List (Lit × DataW H) → Nat
  | [] => 0
  | x :: r => uptoBulkEntry x + uptoBulkEntries r
def uptoBulkEntry {H : Type} : Lit × DataW H → Nat
  | (.string bytes, d) => bytes.length + uptoBulk d + 1
  | (_, d) => uptoBulk d + 1
 end
def uptoSmall : (H : Type) → List (DataW H) → Bool := fun _ ds => decide (uptoBulkAll ds ≤ 1048576)
def OpenSpec.upto (s : _root_.Go.ChangeSpec) : _root_.Go.OpenSpec := { _root_.Go.OpenSpec.ofChange s with cond := some uptoSmall }

/-- 'laws.FnExactFrame', WHERE WHAT IT READS IS OF BULK AT MOST 1048576: true; the input reads as it did. -/
def fnExactFrameUptoRow : OpenClaim := { program := "ytbclkgjjmpipfaa", sum := "9ef6e1bfcc05cae576120272ca5e0d054b2bbc008b9d693d746b88efde859f7e", func := "loop.example/g01277/laws.FnExactFrame", spec := "fnExactFrame", apart := false, narrowed := true }
def FnExactFrameUptoSaid : Prop := fnExactFrameUptoRow.holds Try.pinned (OpenSpec.upto fnExactFrameSpec)

/-- 'laws.FnExactUnframe', WHERE WHAT IT READS IS OF BULK AT MOST 1048576: true; the input reads as it did. -/
def fnExactUnframeUptoRow : OpenClaim := { program := "ytbclkgjjmpipfaa", sum := "9ef6e1bfcc05cae576120272ca5e0d054b2bbc008b9d693d746b88efde859f7e", func := "loop.example/g01277/laws.FnExactUnframe", spec := "fnExactUnframe", apart := false, narrowed := true }
def FnExactUnframeUptoSaid : Prop := fnExactUnframeUptoRow.holds Try.pinned (OpenSpec.upto fnExactUnframeSpec)

/-- 'laws.FnExactShowWrote', WHERE WHAT IT READS IS OF BULK AT MOST 1048576: true; the input reads as it did. -/
def fnExactShowWroteUptoRow : OpenClaim := { program := "ytbclkgjjmpipfaa", sum := "9ef6e1bfcc05cae576120272ca5e0d054b2bbc008b9d693d746b88efde859f7e", func := "loop.example/g01277/laws.FnExactShowWrote", spec := "fnExactShowWrote", apart := false, narrowed := true }
def FnExactShowWroteUptoSaid : Prop := fnExactShowWroteUptoRow.holds Try.pinned (OpenSpec.upto fnExactShowWroteSpec)

/-- 'laws.FnExactReadWrote', WHERE WHAT IT READS IS OF BULK AT MOST 1048576: true; the input reads as it did. -/
def fnExactReadWroteUptoRow : OpenClaim := { program := "ytbclkgjjmpipfaa", sum := "9ef6e1bfcc05cae576120272ca5e0d054b2bbc008b9d693d746b88efde859f7e", func := "loop.example/g01277/laws.FnExactReadWrote", spec := "fnExactReadWrote", apart := false, narrowed := true }
def FnExactReadWroteUptoSaid : Prop := fnExactReadWroteUptoRow.holds Try.pinned (OpenSpec.upto fnExactReadWroteSpec)

/-- 'laws.FnExactJournalRead', WHERE WHAT IT READS IS OF BULK AT MOST 1048576: true; the input reads as it did. -/
def fnExactJournalReadUptoRow : OpenClaim := { program := "ytbclkgjjmpipfaa", sum := "9ef6e1bfcc05cae576120272ca5e0d054b2bbc008b9d693d746b88efde859f7e", func := "loop.example/g01277/laws.FnExactJournalRead", spec := "fnExactJournalRead", apart := false, narrowed := true }
def FnExactJournalReadUptoSaid : Prop := fnExactJournalReadUptoRow.holds Try.pinned (OpenSpec.upto fnExactJournalReadSpec)

/-- 'laws.FnExactJournalAdd', WHERE WHAT IT READS IS OF BULK AT MOST 1048576: true; the input reads as it did. -/
def fnExactJournalAddUptoRow : OpenClaim := { program := "ytbclkgjjmpipfaa", sum := "9ef6e1bfcc05cae576120272ca5e0d054b2bbc008b9d693d746b88efde859f7e", func := "loop.example/g01277/laws.FnExactJournalAdd", spec := "fnExactJournalAdd", apart := false, narrowed := true }
def FnExactJournalAddUptoSaid : Prop := fnExactJournalAddUptoRow.holds Try.pinned (OpenSpec.upto fnExactJournalAddSpec)

/-- 'laws.FnExactJournalState', WHERE WHAT IT READS IS OF BULK AT MOST 1048576: true; the input reads as it did. -/
def fnExactJournalStateUptoRow : OpenClaim := { program := "ytbclkgjjmpipfaa", sum := "9ef6e1bfcc05cae576120272ca5e0d054b2bbc008b9d693d746b88efde859f7e", func := "loop.example/g01277/laws.FnExactJournalState", spec := "fnExactJournalState", apart := false, narrowed := true }
def FnExactJournalStateUptoSaid : Prop := fnExactJournalStateUptoRow.holds Try.pinned (OpenSpec.upto fnExactJournalStateSpec)

end Rows
end Go.Proofs.Ytbclkgjjmpipfaa
