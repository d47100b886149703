/-
  No cell of these rows narrows 'for every input' (looked for: loops, veiled, ifaces, maps, wideKeys, modest, calm, conditions, laid).
  DERIVED. THE GIVEN ROWS OF THIS SEAT. 7 by the template 'for every input the law returns true; each argument reads behind the call as it read before'; 0 by the template 'total and deterministic' (their statements: YtcnkmbofpppfaaaTotals.lean).
  GIVEN WITH THE SEED: the statements are not yours to turn. If you find one false, say at which input.
  Laid BY PROGRAM, IN A SANDBOX (cutbox-rows.mjs): the forced cells as the released guide's own fill.sh prints them over the translation b715484c97cd4b50… (all of the seat's roots in one cut). By AI agents, Wed Nov 11 2026. No macro, syntax, notation, axiom, sorry.
-/
import Derived.Test.YtcnkmbofpppfaaaChecked
import GoSem.Claim
import GoSem.ClaimJoined
import GoSem.ClaimMapViews
import Derived.JoinedTies
import Derived.KernelRfl
namespace Go.Proofs.Ytcnkmbofpppfaaa
/- THE CELL 'sum', in the pinned program and in every row, IS THE sha256 OF THE DUMP (.gsa) THAT YtcnkmbofpppfaaaProg.lean LOADS. Nothing in Lean hashes anything: it is a label: what it is worth is what the hold of that sum in a sandbox is worth. -/
noncomputable def Try.pinned : Pinned := { name := "ytcnkmbofpppfaaa", sum := "b715484c97cd4b5001749e9ba4b4650faccdb24e651191cc2761583461447860", checked := Try.checked }
namespace Rows
def none {H : Type} : Left H := { results := [], args := [] }

/-- 'laws.FnExactCallDo': WHATEVER THE INPUT: true; the input reads as it did. -/
def fnExactCallDoSpec : ChangeSpec := { name := "fnExactCallDo", fn := fun _ => fun
  | [d1, d2] => { results := [.lit (.bool true)], args := [d1, d2] }
  | _ => none }
def fnExactCallDoRow : OpenClaim := { program := "ytcnkmbofpppfaaa", sum := "b715484c97cd4b5001749e9ba4b4650faccdb24e651191cc2761583461447860", func := "loop.example/g01277/laws.FnExactCallDo", spec := "fnExactCallDo", apart := false }
def FnExactCallDoSaid : Prop := fnExactCallDoRow.holds Try.pinned (OpenSpec.ofChange fnExactCallDoSpec)

/-- ITS FALSE NEIGHBOUR: 'it returns false'. Refute it at one input. -/
def fnExactCallDoWrong : ChangeSpec := { name := "fnExactCallDo", fn := fun _ => fun
  | [d1, d2] => { results := [.lit (.bool false)], args := [d1, d2] }
  | _ => none }
def FnExactCallDoWrongFalsely : Prop := fnExactCallDoRow.holds Try.pinned (OpenSpec.ofChange fnExactCallDoWrong)

/-- 'laws.FnExactCallsOk': WHATEVER THE INPUT: true; the input reads as it did. -/
def fnExactCallsOkSpec : ChangeSpec := { name := "fnExactCallsOk", fn := fun _ => fun
  | [d] => { results := [.lit (.bool true)], args := [d] }
  | _ => none }
def fnExactCallsOkRow : OpenClaim := { program := "ytcnkmbofpppfaaa", sum := "b715484c97cd4b5001749e9ba4b4650faccdb24e651191cc2761583461447860", func := "loop.example/g01277/laws.FnExactCallsOk", spec := "fnExactCallsOk", apart := false }
def FnExactCallsOkSaid : Prop := fnExactCallsOkRow.holds Try.pinned (OpenSpec.ofChange fnExactCallsOkSpec)

/-- ITS FALSE NEIGHBOUR: 'it returns false'. Refute it at one input. -/
def fnExactCallsOkWrong : ChangeSpec := { name := "fnExactCallsOk", fn := fun _ => fun
  | [d] => { results := [.lit (.bool false)], args := [d] }
  | _ => none }
def FnExactCallsOkWrongFalsely : Prop := fnExactCallsOkRow.holds Try.pinned (OpenSpec.ofChange fnExactCallsOkWrong)

/-- 'laws.FnExactMayFollow': WHATEVER THE INPUT: true; the input reads as it did. -/
def fnExactMayFollowSpec : ChangeSpec := { name := "fnExactMayFollow", fn := fun _ => fun
  | [d1, d2] => { results := [.lit (.bool true)], args := [d1, d2] }
  | _ => none }
def fnExactMayFollowRow : OpenClaim := { program := "ytcnkmbofpppfaaa", sum := "b715484c97cd4b5001749e9ba4b4650faccdb24e651191cc2761583461447860", func := "loop.example/g01277/laws.FnExactMayFollow", spec := "fnExactMayFollow", apart := false }
def FnExactMayFollowSaid : Prop := fnExactMayFollowRow.holds Try.pinned (OpenSpec.ofChange fnExactMayFollowSpec)

/-- ITS FALSE NEIGHBOUR: 'it returns false'. Refute it at one input. -/
def fnExactMayFollowWrong : ChangeSpec := { name := "fnExactMayFollow", fn := fun _ => fun
  | [d1, d2] => { results := [.lit (.bool false)], args := [d1, d2] }
  | _ => none }
def FnExactMayFollowWrongFalsely : Prop := fnExactMayFollowRow.holds Try.pinned (OpenSpec.ofChange fnExactMayFollowWrong)

/-- 'laws.FnExactFitsOrder': WHATEVER THE INPUT: true; the input reads as it did. -/
def fnExactFitsOrderSpec : ChangeSpec := { name := "fnExactFitsOrder", fn := fun _ => fun
  | [d1, d2, d3] => { results := [.lit (.bool true)], args := [d1, d2, d3] }
  | _ => none }
def fnExactFitsOrderRow : OpenClaim := { program := "ytcnkmbofpppfaaa", sum := "b715484c97cd4b5001749e9ba4b4650faccdb24e651191cc2761583461447860", func := "loop.example/g01277/laws.FnExactFitsOrder", spec := "fnExactFitsOrder", apart := false }
def FnExactFitsOrderSaid : Prop := fnExactFitsOrderRow.holds Try.pinned (OpenSpec.ofChange fnExactFitsOrderSpec)

/-- ITS FALSE NEIGHBOUR: 'it returns false'. Refute it at one input. -/
def fnExactFitsOrderWrong : ChangeSpec := { name := "fnExactFitsOrder", fn := fun _ => fun
  | [d1, d2, d3] => { results := [.lit (.bool false)], args := [d1, d2, d3] }
  | _ => none }
def FnExactFitsOrderWrongFalsely : Prop := fnExactFitsOrderRow.holds Try.pinned (OpenSpec.ofChange fnExactFitsOrderWrong)

/-- 'laws.FnExactLineOrder': WHATEVER THE INPUT: true; the input reads as it did. -/
def fnExactLineOrderSpec : ChangeSpec := { name := "fnExactLineOrder", fn := fun _ => fun
  | [d1, d2] => { results := [.lit (.bool true)], args := [d1, d2] }
  | _ => none }
def fnExactLineOrderRow : OpenClaim := { program := "ytcnkmbofpppfaaa", sum := "b715484c97cd4b5001749e9ba4b4650faccdb24e651191cc2761583461447860", func := "loop.example/g01277/laws.FnExactLineOrder", spec := "fnExactLineOrder", unfollowed := true, recurses := true, apart := false }
def FnExactLineOrderSaid : Prop := fnExactLineOrderRow.holds Try.pinned (OpenSpec.ofChange fnExactLineOrderSpec)

/-- ITS FALSE NEIGHBOUR: 'it returns false'. Refute it at one input. -/
def fnExactLineOrderWrong : ChangeSpec := { name := "fnExactLineOrder", fn := fun _ => fun
  | [d1, d2] => { results := [.lit (.bool false)], args := [d1, d2] }
  | _ => none }
def FnExactLineOrderWrongFalsely : Prop := fnExactLineOrderRow.holds Try.pinned (OpenSpec.ofChange fnExactLineOrderWrong)

/-- 'laws.FnExactLineEnds': WHATEVER THE INPUT: true; the input reads as it did. -/
def fnExactLineEndsSpec : ChangeSpec := { name := "fnExactLineEnds", fn := fun _ => fun
  | [d1, d2] => { results := [.lit (.bool true)], args := [d1, d2] }
  | _ => none }
def fnExactLineEndsRow : OpenClaim := { program := "ytcnkmbofpppfaaa", sum := "b715484c97cd4b5001749e9ba4b4650faccdb24e651191cc2761583461447860", func := "loop.example/g01277/laws.FnExactLineEnds", spec := "fnExactLineEnds", unfollowed := true, recurses := true, apart := false }
def FnExactLineEndsSaid : Prop := fnExactLineEndsRow.holds Try.pinned (OpenSpec.ofChange fnExactLineEndsSpec)

/-- ITS FALSE NEIGHBOUR: 'it returns false'. Refute it at one input. -/
def fnExactLineEndsWrong : ChangeSpec := { name := "fnExactLineEnds", fn := fun _ => fun
  | [d1, d2] => { results := [.lit (.bool false)], args := [d1, d2] }
  | _ => none }
def FnExactLineEndsWrongFalsely : Prop := fnExactLineEndsRow.holds Try.pinned (OpenSpec.ofChange fnExactLineEndsWrong)

/-- 'laws.FnLine': WHATEVER THE INPUT: true; the input reads as it did. -/
def fnLineSpec : ChangeSpec := { name := "fnLine", fn := fun _ => fun
  | [d] => { results := [.lit (.bool true)], args := [d] }
  | _ => none }
def fnLineRow : OpenClaim := { program := "ytcnkmbofpppfaaa", sum := "b715484c97cd4b5001749e9ba4b4650faccdb24e651191cc2761583461447860", func := "loop.example/g01277/laws.FnLine", spec := "fnLine", unfollowed := true, recurses := true, apart := false }
def FnLineSaid : Prop := fnLineRow.holds Try.pinned (OpenSpec.ofChange fnLineSpec)

/-- ITS FALSE NEIGHBOUR: 'it returns false'. Refute it at one input. -/
def fnLineWrong : ChangeSpec := { name := "fnLine", fn := fun _ => fun
  | [d] => { results := [.lit (.bool false)], args := [d] }
  | _ => none }
def FnLineWrongFalsely : Prop := fnLineRow.holds Try.pinned (OpenSpec.ofChange fnLineWrong)

/- THE SECOND FORM. 'bulk': how many values and letters a reading holds, each counted each time it is reached (what is shared counts as often as it is met; a slice's spare places count too). A statement '..UptoSaid' is the law's where the arguments, and the package variables that the reading takes, are together of bulk at most 1048576: NARROWER than '..Said'. Prove '..Said' where nothing that the law and all that it calls make is longer than what came in: it says more and counts as full. Else prove '..UptoSaid'. A law counts once. -/
mutual
def uptoBulk {H : Type} : DataW H → Nat
  | .lit (.string bytes) => bytes.length + 1
  | .lit _ => 1
  | .nil => 1
  | .ptr d => uptoBulk d + 1
  | .slice elems spare => uptoBulkAll elems + uptoBulkAll spare + 1
  | .agg parts => uptoBulkAll parts + 1
  | .iface _ d => uptoBulk d + 1
  | .map entries => uptoBulkEntries entries + 1
  | .held _ => 1
def uptoBulkAll {H : Type} : List (DataW H) → Nat
  | [] => 0
  | d :: r => uptoBulk d + uptoBulkAll r
def uptoBulkEntries {H : Type} : List (Lit × DataW H) → Nat
  | [] => 0
  | x :: r => uptoBulkEntry x + uptoBulkEntries r
def uptoBulkEntry {H : Type} : Lit × DataW H → Nat
  | (.string bytes, d) => bytes.length + uptoBulk d + 1
  | (_, d) => uptoBulk d + 1
 end
def uptoSmall : (H : Type) → List (DataW H) → Bool := fun _ ds => decide (uptoBulkAll ds ≤ 1048576)
def OpenSpec.upto (s : _root_.Go.ChangeSpec) : _root_.Go.OpenSpec := { _root_.Go.OpenSpec.ofChange s with cond := some uptoSmall }

/-- 'laws.FnExactCallDo', WHERE WHAT IT READS IS OF BULK AT MOST 1048576: true; the input reads as it did. -/
def fnExactCallDoUptoRow : OpenClaim := { program := "ytcnkmbofpppfaaa", sum := "b715484c97cd4b5001749e9ba4b4650faccdb24e651191cc2761583461447860", func := "loop.example/g01277/laws.FnExactCallDo", spec := "fnExactCallDo", apart := false, narrowed := true }
def FnExactCallDoUptoSaid : Prop := fnExactCallDoUptoRow.holds Try.pinned (OpenSpec.upto fnExactCallDoSpec)

/-- 'laws.FnExactCallsOk', WHERE WHAT IT READS IS OF BULK AT MOST 1048576: true; the input reads as it did. -/
def fnExactCallsOkUptoRow : OpenClaim := { program := "ytcnkmbofpppfaaa", sum := "b715484c97cd4b5001749e9ba4b4650faccdb24e651191cc2761583461447860", func := "loop.example/g01277/laws.FnExactCallsOk", spec := "fnExactCallsOk", apart := false, narrowed := true }
def FnExactCallsOkUptoSaid : Prop := fnExactCallsOkUptoRow.holds Try.pinned (OpenSpec.upto fnExactCallsOkSpec)

/-- 'laws.FnExactMayFollow', WHERE WHAT IT READS IS OF BULK AT MOST 1048576: true; the input reads as it did. -/
def fnExactMayFollowUptoRow : OpenClaim := { program := "ytcnkmbofpppfaaa", sum := "b715484c97cd4b5001749e9ba4b4650faccdb24e651191cc2761583461447860", func := "loop.example/g01277/laws.FnExactMayFollow", spec := "fnExactMayFollow", apart := false, narrowed := true }
def FnExactMayFollowUptoSaid : Prop := fnExactMayFollowUptoRow.holds Try.pinned (OpenSpec.upto fnExactMayFollowSpec)

/-- 'laws.FnExactFitsOrder', WHERE WHAT IT READS IS OF BULK AT MOST 1048576: true; the input reads as it did. -/
def fnExactFitsOrderUptoRow : OpenClaim := { program := "ytcnkmbofpppfaaa", sum := "b715484c97cd4b5001749e9ba4b4650faccdb24e651191cc2761583461447860", func := "loop.example/g01277/laws.FnExactFitsOrder", spec := "fnExactFitsOrder", apart := false, narrowed := true }
def FnExactFitsOrderUptoSaid : Prop := fnExactFitsOrderUptoRow.holds Try.pinned (OpenSpec.upto fnExactFitsOrderSpec)

/-- 'laws.FnExactLineOrder', WHERE WHAT IT READS IS OF BULK AT MOST 1048576: true; the input reads as it did. -/
def fnExactLineOrderUptoRow : OpenClaim := { program := "ytcnkmbofpppfaaa", sum := "b715484c97cd4b5001749e9ba4b4650faccdb24e651191cc2761583461447860", func := "loop.example/g01277/laws.FnExactLineOrder", spec := "fnExactLineOrder", unfollowed := true, recurses := true, apart := false, narrowed := true }
def FnExactLineOrderUptoSaid : Prop := fnExactLineOrderUptoRow.holds Try.pinned (OpenSpec.upto fnExactLineOrderSpec)

/-- 'laws.FnExactLineEnds', WHERE WHAT IT READS IS OF BULK AT MOST 1048576: true; the input reads as it did. -/
def fnExactLineEndsUptoRow : OpenClaim := { program := "ytcnkmbofpppfaaa", sum := "b715484c97cd4b5001749e9ba4b4650faccdb24e651191cc2761583461447860", func := "loop.example/g01277/laws.FnExactLineEnds", spec := "fnExactLineEnds", unfollowed := true, recurses := true, apart := false, narrowed := true }
def FnExactLineEndsUptoSaid : Prop := fnExactLineEndsUptoRow.holds Try.pinned (OpenSpec.upto fnExactLineEndsSpec)

/-- 'laws.FnLine', WHERE WHAT IT READS IS OF BULK AT MOST 1048576: true; the input reads as it did. -/
def fnLineUptoRow : OpenClaim := { program := "ytcnkmbofpppfaaa", sum := "b715484c97cd4b5001749e9ba4b4650faccdb24e651191cc2761583461447860", func := "loop.example/g01277/laws.FnLine", spec := "fnLine", unfollowed := true, recurses := true, apart := false, narrowed := true }
def FnLineUptoSaid : Prop := fnLineUptoRow.holds Try.pinned (OpenSpec.upto fnLineSpec)

end Rows
end Go.Proofs.Ytcnkmbofpppfaaa
