/-
  No cell of these rows narrows 'for every input' (looked for: loops, veiled, ifaces, maps, wideKeys, modest, calm, conditions, laid).
  DERIVED. THE GIVEN ROWS OF THIS SEAT. 5 by the template 'for every input the law returns true; each argument reads behind the call as it read before'; 0 by the template 'total and deterministic' (their statements: YtfacckjfoajijaaTotals.lean).
  GIVEN WITH THE SEED: the statements are not yours to turn. If you find one false, say at which input.
  Laid BY PROGRAM, IN A SANDBOX (cutbox-rows.mjs): the forced cells as the released guide's own fill.sh prints them over the translation 796b950ce2d1a613… (all of the seat's roots in one cut). By AI agents, Wed Nov 11 2026. No macro, syntax, notation, axiom, sorry.
-/
import Derived.Test.YtfacckjfoajijaaChecked
import GoSem.Claim
import GoSem.ClaimJoined
import GoSem.ClaimMapViews
import Derived.JoinedTies
import Derived.KernelRfl
namespace Go.Proofs.Ytfacckjfoajijaa
/- THE CELL 'sum', in the pinned program and in every row, IS THE sha256 OF THE DUMP (.gsa) THAT YtfacckjfoajijaaProg.lean LOADS. Nothing in Lean hashes anything: it is a label: what it is worth is what the hold of that sum in a sandbox is worth. -/
noncomputable def Try.pinned : Pinned := { name := "ytfacckjfoajijaa", sum := "796b950ce2d1a613d79f5b883f9f6ba4797ca48cab64a16a8145c069f6688a24", checked := Try.checked }
namespace Rows
def none {H : Type} : Left H := { results := [], args := [] }

/-- 'laws.FnExactSettled': WHATEVER THE INPUT: true; the input reads as it did. -/
def fnExactSettledSpec : ChangeSpec := { name := "fnExactSettled", fn := fun _ => fun
  | [d] => { results := [.lit (.bool true)], args := [d] }
  | _ => none }
def fnExactSettledRow : OpenClaim := { program := "ytfacckjfoajijaa", sum := "796b950ce2d1a613d79f5b883f9f6ba4797ca48cab64a16a8145c069f6688a24", func := "loop.example/g01277/laws.FnExactSettled", spec := "fnExactSettled", apart := false }
def FnExactSettledSaid : Prop := fnExactSettledRow.holds Try.pinned (OpenSpec.ofChange fnExactSettledSpec)

/-- ITS FALSE NEIGHBOUR: 'it returns false'. Refute it at one input. -/
def fnExactSettledWrong : ChangeSpec := { name := "fnExactSettled", fn := fun _ => fun
  | [d] => { results := [.lit (.bool false)], args := [d] }
  | _ => none }
def FnExactSettledWrongFalsely : Prop := fnExactSettledRow.holds Try.pinned (OpenSpec.ofChange fnExactSettledWrong)

/-- 'laws.FnExactStampOf': WHATEVER THE INPUT: true; the input reads as it did. -/
def fnExactStampOfSpec : ChangeSpec := { name := "fnExactStampOf", fn := fun _ => fun
  | [d] => { results := [.lit (.bool true)], args := [d] }
  | _ => none }
def fnExactStampOfRow : OpenClaim := { program := "ytfacckjfoajijaa", sum := "796b950ce2d1a613d79f5b883f9f6ba4797ca48cab64a16a8145c069f6688a24", func := "loop.example/g01277/laws.FnExactStampOf", spec := "fnExactStampOf", apart := false }
def FnExactStampOfSaid : Prop := fnExactStampOfRow.holds Try.pinned (OpenSpec.ofChange fnExactStampOfSpec)

/-- ITS FALSE NEIGHBOUR: 'it returns false'. Refute it at one input. -/
def fnExactStampOfWrong : ChangeSpec := { name := "fnExactStampOf", fn := fun _ => fun
  | [d] => { results := [.lit (.bool false)], args := [d] }
  | _ => none }
def FnExactStampOfWrongFalsely : Prop := fnExactStampOfRow.holds Try.pinned (OpenSpec.ofChange fnExactStampOfWrong)

/-- 'laws.FnExactAtRest': WHATEVER THE INPUT: true; the input reads as it did. -/
def fnExactAtRestSpec : ChangeSpec := { name := "fnExactAtRest", fn := fun _ => fun
  | [d] => { results := [.lit (.bool true)], args := [d] }
  | _ => none }
def fnExactAtRestRow : OpenClaim := { program := "ytfacckjfoajijaa", sum := "796b950ce2d1a613d79f5b883f9f6ba4797ca48cab64a16a8145c069f6688a24", func := "loop.example/g01277/laws.FnExactAtRest", spec := "fnExactAtRest", unfollowed := true, recurses := true, apart := false }
def FnExactAtRestSaid : Prop := fnExactAtRestRow.holds Try.pinned (OpenSpec.ofChange fnExactAtRestSpec)

/-- ITS FALSE NEIGHBOUR: 'it returns false'. Refute it at one input. -/
def fnExactAtRestWrong : ChangeSpec := { name := "fnExactAtRest", fn := fun _ => fun
  | [d] => { results := [.lit (.bool false)], args := [d] }
  | _ => none }
def FnExactAtRestWrongFalsely : Prop := fnExactAtRestRow.holds Try.pinned (OpenSpec.ofChange fnExactAtRestWrong)

/-- 'laws.FnExactLive': WHATEVER THE INPUT: true; the input reads as it did. -/
def fnExactLiveSpec : ChangeSpec := { name := "fnExactLive", fn := fun _ => fun
  | [d] => { results := [.lit (.bool true)], args := [d] }
  | _ => none }
def fnExactLiveRow : OpenClaim := { program := "ytfacckjfoajijaa", sum := "796b950ce2d1a613d79f5b883f9f6ba4797ca48cab64a16a8145c069f6688a24", func := "loop.example/g01277/laws.FnExactLive", spec := "fnExactLive", apart := false }
def FnExactLiveSaid : Prop := fnExactLiveRow.holds Try.pinned (OpenSpec.ofChange fnExactLiveSpec)

/-- ITS FALSE NEIGHBOUR: 'it returns false'. Refute it at one input. -/
def fnExactLiveWrong : ChangeSpec := { name := "fnExactLive", fn := fun _ => fun
  | [d] => { results := [.lit (.bool false)], args := [d] }
  | _ => none }
def FnExactLiveWrongFalsely : Prop := fnExactLiveRow.holds Try.pinned (OpenSpec.ofChange fnExactLiveWrong)

/-- 'laws.FnExactRealTime': WHATEVER THE INPUT: true; the input reads as it did. -/
def fnExactRealTimeSpec : ChangeSpec := { name := "fnExactRealTime", fn := fun _ => fun
  | [d] => { results := [.lit (.bool true)], args := [d] }
  | _ => none }
def fnExactRealTimeRow : OpenClaim := { program := "ytfacckjfoajijaa", sum := "796b950ce2d1a613d79f5b883f9f6ba4797ca48cab64a16a8145c069f6688a24", func := "loop.example/g01277/laws.FnExactRealTime", spec := "fnExactRealTime", unfollowed := true, recurses := true, apart := false }
def FnExactRealTimeSaid : Prop := fnExactRealTimeRow.holds Try.pinned (OpenSpec.ofChange fnExactRealTimeSpec)

/-- ITS FALSE NEIGHBOUR: 'it returns false'. Refute it at one input. -/
def fnExactRealTimeWrong : ChangeSpec := { name := "fnExactRealTime", fn := fun _ => fun
  | [d] => { results := [.lit (.bool false)], args := [d] }
  | _ => none }
def FnExactRealTimeWrongFalsely : Prop := fnExactRealTimeRow.holds Try.pinned (OpenSpec.ofChange fnExactRealTimeWrong)

/- THE SECOND FORM. 'bulk': how many values and letters a reading holds, each counted each time it is reached (what is shared counts as often as it is met; a slice's spare places count too). A statement '..UptoSaid' is the law's where the arguments, and the package variables that the reading takes, are together of bulk at most 1048576: NARROWER than '..Said'. Prove '..Said' where nothing that the law and all that it calls make is longer than what came in: it says more and counts as full. Else prove '..UptoSaid'. A law counts once. -/
mutual
def uptoBulk {H : Type} : DataW H → Nat
  | .lit (.string bytes) => bytes.length + 1
  | .lit _ => 1
  | .nil => 1
  | .ptr d => uptoBulk d + 1
  | .slice elems spare => uptoBulkAll elems + uptoBulkAll spare + 1
  | .agg parts => uptoBulkAll parts + 1
  | .iface _ d => uptoBulk d + 1
  | .map entries => uptoBulkEntries entries + 1
  | .held _ => 1
def uptoBulkAll {H : Type} : List (DataW H) → Nat
  | [] => 0
  | d :: r => uptoBulk d + uptoBulkAll r
def uptoBulkEntries {H : Type} : List (Lit × DataW H) → Nat
  | [] => 0
  | x :: r => uptoBulkEntry x + uptoBulkEntries r
def uptoBulkEntry {H : Type} : Lit × DataW H → Nat
  | (.string bytes, d) => bytes.length + uptoBulk d + 1
  | (_, d) => uptoBulk d + 1
 end
def uptoSmall : (H : Type) → List (DataW H) → Bool := fun _ ds => decide (uptoBulkAll ds ≤ 1048576)
def OpenSpec.upto (s : _root_.Go.ChangeSpec) : _root_.Go.OpenSpec := { _root_.Go.OpenSpec.ofChange s with cond := some uptoSmall }

/-- 'laws.FnExactSettled', WHERE WHAT IT READS IS OF BULK AT MOST 1048576: true; the input reads as it did. -/
def fnExactSettledUptoRow : OpenClaim := { program := "ytfacckjfoajijaa", sum := "796b950ce2d1a613d79f5b883f9f6ba4797ca48cab64a16a8145c069f6688a24", func := "loop.example/g01277/laws.FnExactSettled", spec := "fnExactSettled", apart := false, narrowed := true }
def FnExactSettledUptoSaid : Prop := fnExactSettledUptoRow.holds Try.pinned (OpenSpec.upto fnExactSettledSpec)

/-- 'laws.FnExactStampOf', WHERE WHAT IT READS IS OF BULK AT MOST 1048576: true; the input reads as it did. -/
def fnExactStampOfUptoRow : OpenClaim := { program := "ytfacckjfoajijaa", sum := "796b950ce2d1a613d79f5b883f9f6ba4797ca48cab64a16a8145c069f6688a24", func := "loop.example/g01277/laws.FnExactStampOf", spec := "fnExactStampOf", apart := false, narrowed := true }
def FnExactStampOfUptoSaid : Prop := fnExactStampOfUptoRow.holds Try.pinned (OpenSpec.upto fnExactStampOfSpec)

/-- 'laws.FnExactAtRest', WHERE WHAT IT READS IS OF BULK AT MOST 1048576: true; the input reads as it did. -/
def fnExactAtRestUptoRow : OpenClaim := { program := "ytfacckjfoajijaa", sum := "796b950ce2d1a613d79f5b883f9f6ba4797ca48cab64a16a8145c069f6688a24", func := "loop.example/g01277/laws.FnExactAtRest", spec := "fnExactAtRest", unfollowed := true, recurses := true, apart := false, narrowed := true }
def FnExactAtRestUptoSaid : Prop := fnExactAtRestUptoRow.holds Try.pinned (OpenSpec.upto fnExactAtRestSpec)

/-- 'laws.FnExactLive', WHERE WHAT IT READS IS OF BULK AT MOST 1048576: true; the input reads as it did. -/
def fnExactLiveUptoRow : OpenClaim := { program := "ytfacckjfoajijaa", sum := "796b950ce2d1a613d79f5b883f9f6ba4797ca48cab64a16a8145c069f6688a24", func := "loop.example/g01277/laws.FnExactLive", spec := "fnExactLive", apart := false, narrowed := true }
def FnExactLiveUptoSaid : Prop := fnExactLiveUptoRow.holds Try.pinned (OpenSpec.upto fnExactLiveSpec)

/-- 'laws.FnExactRealTime', WHERE WHAT IT READS IS OF BULK AT MOST 1048576: true; the input reads as it did. -/
def fnExactRealTimeUptoRow : OpenClaim := { program := "ytfacckjfoajijaa", sum := "796b950ce2d1a613d79f5b883f9f6ba4797ca48cab64a16a8145c069f6688a24", func := "loop.example/g01277/laws.FnExactRealTime", spec := "fnExactRealTime", unfollowed := true, recurses := true, apart := false, narrowed := true }
def FnExactRealTimeUptoSaid : Prop := fnExactRealTimeUptoRow.holds Try.pinned (OpenSpec.upto fnExactRealTimeSpec)

end Rows
end Go.Proofs.Ytfacckjfoajijaa
