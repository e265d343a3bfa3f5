/-
  No cell of these rows narrows 'for every input' (looked for: loops, veiled, ifaces, maps, wideKeys, modest, calm, conditions, laid).
  DERIVED. THE GIVEN ROWS OF THIS SEAT. 7 by the template 'for every input the law returns true; each argument reads behind the call as it read before'; 0 by the template 'total and deterministic' (their statements: YtkcalkiibolceaaTotals.lean).
  GIVEN WITH THE SEED: the statements are not yours to turn. If you find one false, say at which input.
  Laid BY PROGRAM, IN A SANDBOX (cutbox-rows.mjs): the forced cells as the released guide's own fill.sh prints them over the translation d630001ae17c18e8… (all of the seat's roots in one cut). By AI agents, Wed Nov 11 2026. No macro, syntax, notation, axiom, sorry.
-/
import Derived.Test.YtkcalkiibolceaaChecked
import GoSem.Claim
import GoSem.ClaimJoined
import GoSem.ClaimMapViews
import Derived.JoinedTies
import Derived.KernelRfl
namespace Go.Proofs.Ytkcalkiibolceaa
/- THE CELL 'sum', in the pinned program and in every row, IS THE sha256 OF THE DUMP (.gsa) THAT YtkcalkiibolceaaProg.lean LOADS. Nothing in Lean hashes anything: it is a label: what it is worth is what the hold of that sum in a sandbox is worth. -/
noncomputable def Try.pinned : Pinned := { name := "ytkcalkiibolceaa", sum := "d630001ae17c18e8653f338fbb205c1b44bdace0d1356d2ebc8306fd4fe67929", checked := Try.checked }
namespace Rows
def none {H : Type} : Left H := { results := [], args := [] }

/-- 'papermilllaw27.ClosedChecks': WHATEVER THE INPUT: true; the input reads as it did. -/
def closedChecksSpec : ChangeSpec := { name := "closedChecks", fn := fun _ => fun
  | [d1, d2] => { results := [.lit (.bool true)], args := [d1, d2] }
  | _ => none }
def closedChecksRow : OpenClaim := { program := "ytkcalkiibolceaa", sum := "d630001ae17c18e8653f338fbb205c1b44bdace0d1356d2ebc8306fd4fe67929", func := "papermill/papermilllaw27.ClosedChecks", spec := "closedChecks", unfollowed := true, recurses := true, apart := false }
def ClosedChecksSaid : Prop := closedChecksRow.holds Try.pinned (OpenSpec.ofChange closedChecksSpec)

/-- ITS FALSE NEIGHBOUR: 'it returns false'. Refute it at one input. -/
def closedChecksWrong : ChangeSpec := { name := "closedChecks", fn := fun _ => fun
  | [d1, d2] => { results := [.lit (.bool false)], args := [d1, d2] }
  | _ => none }
def ClosedChecksWrongFalsely : Prop := closedChecksRow.holds Try.pinned (OpenSpec.ofChange closedChecksWrong)

/-- 'papermilllaw27.ClosedRuns': WHATEVER THE INPUT: true; the input reads as it did. -/
def closedRunsSpec : ChangeSpec := { name := "closedRuns", fn := fun _ => fun
  | [d1, d2, d3, d4, d5] => { results := [.lit (.bool true)], args := [d1, d2, d3, d4, d5] }
  | _ => none }
def closedRunsRow : OpenClaim := { program := "ytkcalkiibolceaa", sum := "d630001ae17c18e8653f338fbb205c1b44bdace0d1356d2ebc8306fd4fe67929", func := "papermill/papermilllaw27.ClosedRuns", spec := "closedRuns", unfollowed := true, recurses := true, apart := false }
def ClosedRunsSaid : Prop := closedRunsRow.holds Try.pinned (OpenSpec.ofChange closedRunsSpec)

/-- ITS FALSE NEIGHBOUR: 'it returns false'. Refute it at one input. -/
def closedRunsWrong : ChangeSpec := { name := "closedRuns", fn := fun _ => fun
  | [d1, d2, d3, d4, d5] => { results := [.lit (.bool false)], args := [d1, d2, d3, d4, d5] }
  | _ => none }
def ClosedRunsWrongFalsely : Prop := closedRunsRow.holds Try.pinned (OpenSpec.ofChange closedRunsWrong)

/-- 'papermilllaw27.ClosedSettles': WHATEVER THE INPUT: true; the input reads as it did. -/
def closedSettlesSpec : ChangeSpec := { name := "closedSettles", fn := fun _ => fun
  | [d1, d2, d3, d4, d5] => { results := [.lit (.bool true)], args := [d1, d2, d3, d4, d5] }
  | _ => none }
def closedSettlesRow : OpenClaim := { program := "ytkcalkiibolceaa", sum := "d630001ae17c18e8653f338fbb205c1b44bdace0d1356d2ebc8306fd4fe67929", func := "papermill/papermilllaw27.ClosedSettles", spec := "closedSettles", unfollowed := true, recurses := true, apart := false }
def ClosedSettlesSaid : Prop := closedSettlesRow.holds Try.pinned (OpenSpec.ofChange closedSettlesSpec)

/-- ITS FALSE NEIGHBOUR: 'it returns false'. Refute it at one input. -/
def closedSettlesWrong : ChangeSpec := { name := "closedSettles", fn := fun _ => fun
  | [d1, d2, d3, d4, d5] => { results := [.lit (.bool false)], args := [d1, d2, d3, d4, d5] }
  | _ => none }
def ClosedSettlesWrongFalsely : Prop := closedSettlesRow.holds Try.pinned (OpenSpec.ofChange closedSettlesWrong)

/-- 'papermilllaw27.ClosedLimits': WHATEVER THE INPUT: true; the input reads as it did. -/
def closedLimitsSpec : ChangeSpec := { name := "closedLimits", fn := fun _ => fun
  | [d1, d2, d3, d4, d5, d6] => { results := [.lit (.bool true)], args := [d1, d2, d3, d4, d5, d6] }
  | _ => none }
def closedLimitsRow : OpenClaim := { program := "ytkcalkiibolceaa", sum := "d630001ae17c18e8653f338fbb205c1b44bdace0d1356d2ebc8306fd4fe67929", func := "papermill/papermilllaw27.ClosedLimits", spec := "closedLimits", unfollowed := true, recurses := true, apart := false }
def ClosedLimitsSaid : Prop := closedLimitsRow.holds Try.pinned (OpenSpec.ofChange closedLimitsSpec)

/-- ITS FALSE NEIGHBOUR: 'it returns false'. Refute it at one input. -/
def closedLimitsWrong : ChangeSpec := { name := "closedLimits", fn := fun _ => fun
  | [d1, d2, d3, d4, d5, d6] => { results := [.lit (.bool false)], args := [d1, d2, d3, d4, d5, d6] }
  | _ => none }
def ClosedLimitsWrongFalsely : Prop := closedLimitsRow.holds Try.pinned (OpenSpec.ofChange closedLimitsWrong)

/-- 'papermilllaw27.ClosedOutputs': WHATEVER THE INPUT: true; the input reads as it did. -/
def closedOutputsSpec : ChangeSpec := { name := "closedOutputs", fn := fun _ => fun
  | [d1, d2, d3, d4, d5] => { results := [.lit (.bool true)], args := [d1, d2, d3, d4, d5] }
  | _ => none }
def closedOutputsRow : OpenClaim := { program := "ytkcalkiibolceaa", sum := "d630001ae17c18e8653f338fbb205c1b44bdace0d1356d2ebc8306fd4fe67929", func := "papermill/papermilllaw27.ClosedOutputs", spec := "closedOutputs", unfollowed := true, recurses := true, apart := false }
def ClosedOutputsSaid : Prop := closedOutputsRow.holds Try.pinned (OpenSpec.ofChange closedOutputsSpec)

/-- ITS FALSE NEIGHBOUR: 'it returns false'. Refute it at one input. -/
def closedOutputsWrong : ChangeSpec := { name := "closedOutputs", fn := fun _ => fun
  | [d1, d2, d3, d4, d5] => { results := [.lit (.bool false)], args := [d1, d2, d3, d4, d5] }
  | _ => none }
def ClosedOutputsWrongFalsely : Prop := closedOutputsRow.holds Try.pinned (OpenSpec.ofChange closedOutputsWrong)

/-- 'papermilllaw27.ClosedPrefix': WHATEVER THE INPUT: true; the input reads as it did. -/
def closedPrefixSpec : ChangeSpec := { name := "closedPrefix", fn := fun _ => fun
  | [d1, d2, d3, d4, d5, d6] => { results := [.lit (.bool true)], args := [d1, d2, d3, d4, d5, d6] }
  | _ => none }
def closedPrefixRow : OpenClaim := { program := "ytkcalkiibolceaa", sum := "d630001ae17c18e8653f338fbb205c1b44bdace0d1356d2ebc8306fd4fe67929", func := "papermill/papermilllaw27.ClosedPrefix", spec := "closedPrefix", unfollowed := true, recurses := true, apart := false }
def ClosedPrefixSaid : Prop := closedPrefixRow.holds Try.pinned (OpenSpec.ofChange closedPrefixSpec)

/-- ITS FALSE NEIGHBOUR: 'it returns false'. Refute it at one input. -/
def closedPrefixWrong : ChangeSpec := { name := "closedPrefix", fn := fun _ => fun
  | [d1, d2, d3, d4, d5, d6] => { results := [.lit (.bool false)], args := [d1, d2, d3, d4, d5, d6] }
  | _ => none }
def ClosedPrefixWrongFalsely : Prop := closedPrefixRow.holds Try.pinned (OpenSpec.ofChange closedPrefixWrong)

/-- 'papermilllaw27.ClosedSettled': WHATEVER THE INPUT: true; the input reads as it did. -/
def closedSettledSpec : ChangeSpec := { name := "closedSettled", fn := fun _ => fun
  | [d1, d2, d3, d4, d5] => { results := [.lit (.bool true)], args := [d1, d2, d3, d4, d5] }
  | _ => none }
def closedSettledRow : OpenClaim := { program := "ytkcalkiibolceaa", sum := "d630001ae17c18e8653f338fbb205c1b44bdace0d1356d2ebc8306fd4fe67929", func := "papermill/papermilllaw27.ClosedSettled", spec := "closedSettled", unfollowed := true, recurses := true, apart := false }
def ClosedSettledSaid : Prop := closedSettledRow.holds Try.pinned (OpenSpec.ofChange closedSettledSpec)

/-- ITS FALSE NEIGHBOUR: 'it returns false'. Refute it at one input. -/
def closedSettledWrong : ChangeSpec := { name := "closedSettled", fn := fun _ => fun
  | [d1, d2, d3, d4, d5] => { results := [.lit (.bool false)], args := [d1, d2, d3, d4, d5] }
  | _ => none }
def ClosedSettledWrongFalsely : Prop := closedSettledRow.holds Try.pinned (OpenSpec.ofChange closedSettledWrong)

/- THE SECOND FORM. 'bulk': how many values and letters a reading holds, each counted each time it is reached (what is shared counts as often as it is met; a slice's spare places count too). A statement '..UptoSaid' is the law's where the arguments, and the package variables that the reading takes, are together of bulk at most 1048576: NARROWER than '..Said'. Prove '..Said' where nothing that the law and all that it calls make is longer than what came in: it says more and counts as full. Else prove '..UptoSaid'. A law counts once. -/
mutual
def uptoBulk {H : Type} : DataW H → Nat
  | .lit (.string bytes) => bytes.length + 1
  | .lit _ => 1
  | .nil => 1
  | .ptr d => uptoBulk d + 1
  | .slice elems spare => uptoBulkAll elems + uptoBulkAll spare + 1
  | .agg parts => uptoBulkAll parts + 1
  | .iface _ d => uptoBulk d + 1
  | .map entries => uptoBulkEntries entries + 1
  | .held _ => 1
def uptoBulkAll {H : Type} : List (DataW H) → Nat
  | [] => 0
  | d :: r => uptoBulk d + uptoBulkAll r
def uptoBulkEntries {H : Type} : List (Lit × DataW H) → Nat
  | [] => 0
  | x :: r => uptoBulkEntry x + uptoBulkEntries r
def uptoBulkEntry {H : Type} : Lit × DataW H → Nat
  | (.string bytes, d) => bytes.length + uptoBulk d + 1
  | (_, d) => uptoBulk d + 1
 end
def uptoSmall : (H : Type) → List (DataW H) → Bool := fun _ ds => decide (uptoBulkAll ds ≤ 1048576)
def OpenSpec.upto (s : _root_.Go.ChangeSpec) : _root_.Go.OpenSpec := { _root_.Go.OpenSpec.ofChange s with cond := some uptoSmall }

/-- 'papermilllaw27.ClosedChecks', WHERE WHAT IT READS IS OF BULK AT MOST 1048576: true; the input reads as it did. -/
def closedChecksUptoRow : OpenClaim := { program := "ytkcalkiibolceaa", sum := "d630001ae17c18e8653f338fbb205c1b44bdace0d1356d2ebc8306fd4fe67929", func := "papermill/papermilllaw27.ClosedChecks", spec := "closedChecks", unfollowed := true, recurses := true, apart := false, narrowed := true }
def ClosedChecksUptoSaid : Prop := closedChecksUptoRow.holds Try.pinned (OpenSpec.upto closedChecksSpec)

/-- 'papermilllaw27.ClosedRuns', WHERE WHAT IT READS IS OF BULK AT MOST 1048576: true; the input reads as it did. -/
def closedRunsUptoRow : OpenClaim := { program := "ytkcalkiibolceaa", sum := "d630001ae17c18e8653f338fbb205c1b44bdace0d1356d2ebc8306fd4fe67929", func := "papermill/papermilllaw27.ClosedRuns", spec := "closedRuns", unfollowed := true, recurses := true, apart := false, narrowed := true }
def ClosedRunsUptoSaid : Prop := closedRunsUptoRow.holds Try.pinned (OpenSpec.upto closedRunsSpec)

/-- 'papermilllaw27.ClosedSettles', WHERE WHAT IT READS IS OF BULK AT MOST 1048576: true; the input reads as it did. -/
def closedSettlesUptoRow : OpenClaim := { program := "ytkcalkiibolceaa", sum := "d630001ae17c18e8653f338fbb205c1b44bdace0d1356d2ebc8306fd4fe67929", func := "papermill/papermilllaw27.ClosedSettles", spec := "closedSettles", unfollowed := true, recurses := true, apart := false, narrowed := true }
def ClosedSettlesUptoSaid : Prop := closedSettlesUptoRow.holds Try.pinned (OpenSpec.upto closedSettlesSpec)

/-- 'papermilllaw27.ClosedLimits', WHERE WHAT IT READS IS OF BULK AT MOST 1048576: true; the input reads as it did. -/
def closedLimitsUptoRow : OpenClaim := { program := "ytkcalkiibolceaa", sum := "d630001ae17c18e8653f338fbb205c1b44bdace0d1356d2ebc8306fd4fe67929", func := "papermill/papermilllaw27.ClosedLimits", spec := "closedLimits", unfollowed := true, recurses := true, apart := false, narrowed := true }
def ClosedLimitsUptoSaid : Prop := closedLimitsUptoRow.holds Try.pinned (OpenSpec.upto closedLimitsSpec)

/-- 'papermilllaw27.ClosedOutputs', WHERE WHAT IT READS IS OF BULK AT MOST 1048576: true; the input reads as it did. -/
def closedOutputsUptoRow : OpenClaim := { program := "ytkcalkiibolceaa", sum := "d630001ae17c18e8653f338fbb205c1b44bdace0d1356d2ebc8306fd4fe67929", func := "papermill/papermilllaw27.ClosedOutputs", spec := "closedOutputs", unfollowed := true, recurses := true, apart := false, narrowed := true }
def ClosedOutputsUptoSaid : Prop := closedOutputsUptoRow.holds Try.pinned (OpenSpec.upto closedOutputsSpec)

/-- 'papermilllaw27.ClosedPrefix', WHERE WHAT IT READS IS OF BULK AT MOST 1048576: true; the input reads as it did. -/
def closedPrefixUptoRow : OpenClaim := { program := "ytkcalkiibolceaa", sum := "d630001ae17c18e8653f338fbb205c1b44bdace0d1356d2ebc8306fd4fe67929", func := "papermill/papermilllaw27.ClosedPrefix", spec := "closedPrefix", unfollowed := true, recurses := true, apart := false, narrowed := true }
def ClosedPrefixUptoSaid : Prop := closedPrefixUptoRow.holds Try.pinned (OpenSpec.upto closedPrefixSpec)

/-- 'papermilllaw27.ClosedSettled', WHERE WHAT IT READS IS OF BULK AT MOST 1048576: true; the input reads as it did. -/
def closedSettledUptoRow : OpenClaim := { program := "ytkcalkiibolceaa", sum := "d630001ae17c18e8653f338fbb205c1b44bdace0d1356d2ebc8306fd4fe67929", func := "papermill/papermilllaw27.ClosedSettled", spec := "closedSettled", unfollowed := true, recurses := true, apart := false, narrowed := true }
def ClosedSettledUptoSaid : Prop := closedSettledUptoRow.holds Try.pinned (OpenSpec.upto closedSettledSpec)

end Rows
end Go.Proofs.Ytkcalkiibolceaa
