/-
  No cell of these rows narrows 'for every input' (looked for: loops, veiled, ifaces, maps, wideKeys, modest, calm, conditions, laid).
  DERIVED. THE GIVEN ROWS OF THIS SEAT. 7 by the template 'for every input the law returns true; each argument reads behind the call as it read before'; 0 by the template 'total and deterministic' (their statements: YthekpbkmoejgmaaTotals.lean).
  GIVEN WITH THE SEED: the statements are not yours to turn. If you find one false, say at which input.
  Laid BY PROGRAM, IN A SANDBOX (cutbox-rows.mjs): the forced cells as the released guide's own fill.sh prints them over the translation ecf01f722af4a4a2… (all of the seat's roots in one cut). By AI agents, Wed Nov 11 2026. No macro, syntax, notation, axiom, sorry.
-/
import Derived.Test.YthekpbkmoejgmaaChecked
import GoSem.Claim
import GoSem.ClaimJoined
import GoSem.ClaimMapViews
import Derived.JoinedTies
import Derived.KernelRfl
namespace Go.Proofs.Ythekpbkmoejgmaa
/- THE CELL 'sum', in the pinned program and in every row, IS THE sha256 OF THE DUMP (.gsa) THAT YthekpbkmoejgmaaProg.lean LOADS. Nothing in Lean hashes anything: it is a label: what it is worth is what the hold of that sum in a sandbox is worth. -/
noncomputable def Try.pinned : Pinned := { name := "ythekpbkmoejgmaa", sum := "ecf01f722af4a4a232de5e527ddd32d03ac47e57d2f050d0b4309e38d08a5df6", checked := Try.checked }
namespace Rows
def none {H : Type} : Left H := { results := [], args := [] }

/-- 'papermilllaw25.ControlChecks': WHATEVER THE INPUT: true; the input reads as it did. -/
def controlChecksSpec : ChangeSpec := { name := "controlChecks", fn := fun _ => fun
  | [d1, d2] => { results := [.lit (.bool true)], args := [d1, d2] }
  | _ => none }
def controlChecksRow : OpenClaim := { program := "ythekpbkmoejgmaa", sum := "ecf01f722af4a4a232de5e527ddd32d03ac47e57d2f050d0b4309e38d08a5df6", func := "papermill/papermilllaw25.ControlChecks", spec := "controlChecks", unfollowed := true, recurses := true, apart := false }
def ControlChecksSaid : Prop := controlChecksRow.holds Try.pinned (OpenSpec.ofChange controlChecksSpec)

/-- ITS FALSE NEIGHBOUR: 'it returns false'. Refute it at one input. -/
def controlChecksWrong : ChangeSpec := { name := "controlChecks", fn := fun _ => fun
  | [d1, d2] => { results := [.lit (.bool false)], args := [d1, d2] }
  | _ => none }
def ControlChecksWrongFalsely : Prop := controlChecksRow.holds Try.pinned (OpenSpec.ofChange controlChecksWrong)

/-- 'papermilllaw25.ControlSteps': WHATEVER THE INPUT: true; the input reads as it did. -/
def controlStepsSpec : ChangeSpec := { name := "controlSteps", fn := fun _ => fun
  | [d1, d2, d3] => { results := [.lit (.bool true)], args := [d1, d2, d3] }
  | _ => none }
def controlStepsRow : OpenClaim := { program := "ythekpbkmoejgmaa", sum := "ecf01f722af4a4a232de5e527ddd32d03ac47e57d2f050d0b4309e38d08a5df6", func := "papermill/papermilllaw25.ControlSteps", spec := "controlSteps", unfollowed := true, recurses := true, apart := false }
def ControlStepsSaid : Prop := controlStepsRow.holds Try.pinned (OpenSpec.ofChange controlStepsSpec)

/-- ITS FALSE NEIGHBOUR: 'it returns false'. Refute it at one input. -/
def controlStepsWrong : ChangeSpec := { name := "controlSteps", fn := fun _ => fun
  | [d1, d2, d3] => { results := [.lit (.bool false)], args := [d1, d2, d3] }
  | _ => none }
def ControlStepsWrongFalsely : Prop := controlStepsRow.holds Try.pinned (OpenSpec.ofChange controlStepsWrong)

/-- 'papermilllaw25.ControlRuns': WHATEVER THE INPUT: true; the input reads as it did. -/
def controlRunsSpec : ChangeSpec := { name := "controlRuns", fn := fun _ => fun
  | [d1, d2, d3] => { results := [.lit (.bool true)], args := [d1, d2, d3] }
  | _ => none }
def controlRunsRow : OpenClaim := { program := "ythekpbkmoejgmaa", sum := "ecf01f722af4a4a232de5e527ddd32d03ac47e57d2f050d0b4309e38d08a5df6", func := "papermill/papermilllaw25.ControlRuns", spec := "controlRuns", unfollowed := true, recurses := true, apart := false }
def ControlRunsSaid : Prop := controlRunsRow.holds Try.pinned (OpenSpec.ofChange controlRunsSpec)

/-- ITS FALSE NEIGHBOUR: 'it returns false'. Refute it at one input. -/
def controlRunsWrong : ChangeSpec := { name := "controlRuns", fn := fun _ => fun
  | [d1, d2, d3] => { results := [.lit (.bool false)], args := [d1, d2, d3] }
  | _ => none }
def ControlRunsWrongFalsely : Prop := controlRunsRow.holds Try.pinned (OpenSpec.ofChange controlRunsWrong)

/-- 'papermilllaw25.ControlLimits': WHATEVER THE INPUT: true; the input reads as it did. -/
def controlLimitsSpec : ChangeSpec := { name := "controlLimits", fn := fun _ => fun
  | [d1, d2, d3] => { results := [.lit (.bool true)], args := [d1, d2, d3] }
  | _ => none }
def controlLimitsRow : OpenClaim := { program := "ythekpbkmoejgmaa", sum := "ecf01f722af4a4a232de5e527ddd32d03ac47e57d2f050d0b4309e38d08a5df6", func := "papermill/papermilllaw25.ControlLimits", spec := "controlLimits", unfollowed := true, recurses := true, apart := false }
def ControlLimitsSaid : Prop := controlLimitsRow.holds Try.pinned (OpenSpec.ofChange controlLimitsSpec)

/-- ITS FALSE NEIGHBOUR: 'it returns false'. Refute it at one input. -/
def controlLimitsWrong : ChangeSpec := { name := "controlLimits", fn := fun _ => fun
  | [d1, d2, d3] => { results := [.lit (.bool false)], args := [d1, d2, d3] }
  | _ => none }
def ControlLimitsWrongFalsely : Prop := controlLimitsRow.holds Try.pinned (OpenSpec.ofChange controlLimitsWrong)

/-- 'papermilllaw25.ControlMonotone': WHATEVER THE INPUT: true; the input reads as it did. -/
def controlMonotoneSpec : ChangeSpec := { name := "controlMonotone", fn := fun _ => fun
  | [d1, d2, d3] => { results := [.lit (.bool true)], args := [d1, d2, d3] }
  | _ => none }
def controlMonotoneRow : OpenClaim := { program := "ythekpbkmoejgmaa", sum := "ecf01f722af4a4a232de5e527ddd32d03ac47e57d2f050d0b4309e38d08a5df6", func := "papermill/papermilllaw25.ControlMonotone", spec := "controlMonotone", unfollowed := true, recurses := true, apart := false }
def ControlMonotoneSaid : Prop := controlMonotoneRow.holds Try.pinned (OpenSpec.ofChange controlMonotoneSpec)

/-- ITS FALSE NEIGHBOUR: 'it returns false'. Refute it at one input. -/
def controlMonotoneWrong : ChangeSpec := { name := "controlMonotone", fn := fun _ => fun
  | [d1, d2, d3] => { results := [.lit (.bool false)], args := [d1, d2, d3] }
  | _ => none }
def ControlMonotoneWrongFalsely : Prop := controlMonotoneRow.holds Try.pinned (OpenSpec.ofChange controlMonotoneWrong)

/-- 'papermilllaw25.ControlRests': WHATEVER THE INPUT: true; the input reads as it did. -/
def controlRestsSpec : ChangeSpec := { name := "controlRests", fn := fun _ => fun
  | [d1, d2, d3] => { results := [.lit (.bool true)], args := [d1, d2, d3] }
  | _ => none }
def controlRestsRow : OpenClaim := { program := "ythekpbkmoejgmaa", sum := "ecf01f722af4a4a232de5e527ddd32d03ac47e57d2f050d0b4309e38d08a5df6", func := "papermill/papermilllaw25.ControlRests", spec := "controlRests", unfollowed := true, recurses := true, apart := false }
def ControlRestsSaid : Prop := controlRestsRow.holds Try.pinned (OpenSpec.ofChange controlRestsSpec)

/-- ITS FALSE NEIGHBOUR: 'it returns false'. Refute it at one input. -/
def controlRestsWrong : ChangeSpec := { name := "controlRests", fn := fun _ => fun
  | [d1, d2, d3] => { results := [.lit (.bool false)], args := [d1, d2, d3] }
  | _ => none }
def ControlRestsWrongFalsely : Prop := controlRestsRow.holds Try.pinned (OpenSpec.ofChange controlRestsWrong)

/-- 'papermilllaw25.ControlSaturates': WHATEVER THE INPUT: true; the input reads as it did. -/
def controlSaturatesSpec : ChangeSpec := { name := "controlSaturates", fn := fun _ => fun
  | [d1, d2, d3] => { results := [.lit (.bool true)], args := [d1, d2, d3] }
  | _ => none }
def controlSaturatesRow : OpenClaim := { program := "ythekpbkmoejgmaa", sum := "ecf01f722af4a4a232de5e527ddd32d03ac47e57d2f050d0b4309e38d08a5df6", func := "papermill/papermilllaw25.ControlSaturates", spec := "controlSaturates", unfollowed := true, recurses := true, apart := false }
def ControlSaturatesSaid : Prop := controlSaturatesRow.holds Try.pinned (OpenSpec.ofChange controlSaturatesSpec)

/-- ITS FALSE NEIGHBOUR: 'it returns false'. Refute it at one input. -/
def controlSaturatesWrong : ChangeSpec := { name := "controlSaturates", fn := fun _ => fun
  | [d1, d2, d3] => { results := [.lit (.bool false)], args := [d1, d2, d3] }
  | _ => none }
def ControlSaturatesWrongFalsely : Prop := controlSaturatesRow.holds Try.pinned (OpenSpec.ofChange controlSaturatesWrong)

/- THE SECOND FORM. 'bulk': how many values and letters a reading holds, each counted each time it is reached (what is shared counts as often as it is met; a slice's spare places count too). A statement '..UptoSaid' is the law's where the arguments, and the package variables that the reading takes, are together of bulk at most 1048576: NARROWER than '..Said'. Prove '..Said' where nothing that the law and all that it calls make is longer than what came in: it says more and counts as full. Else prove '..UptoSaid'. A law counts once. -/
mutual
def uptoBulk {H : Type} : DataW H → Nat
  | .lit (.string bytes) => bytes.length + 1
  | .lit _ => 1
  | .nil => 1
  | .ptr d => uptoBulk d + 1
  | .slice elems spare => uptoBulkAll elems + uptoBulkAll spare + 1
  | .agg parts => uptoBulkAll parts + 1
  | .iface _ d => uptoBulk d + 1
  | .map entries => uptoBulkEntries entries + 1
  | .held _ => 1
def uptoBulkAll {H : Type} : List (DataW H) → Nat
  | [] => 0
  | d :: r => uptoBulk d + uptoBulkAll r
def uptoBulkEntries {H : Type} : List (Lit × DataW H) → Nat
  | [] => 0
  | x :: r => uptoBulkEntry x + uptoBulkEntries r
def uptoBulkEntry {H : Type} : Lit × DataW H → Nat
  | (.string bytes, d) => bytes.length + uptoBulk d + 1
  | (_, d) => uptoBulk d + 1
 end
def uptoSmall : (H : Type) → List (DataW H) → Bool := fun _ ds => decide (uptoBulkAll ds ≤ 1048576)
def OpenSpec.upto (s : _root_.Go.ChangeSpec) : _root_.Go.OpenSpec := { _root_.Go.OpenSpec.ofChange s with cond := some uptoSmall }

/-- 'papermilllaw25.ControlChecks', WHERE WHAT IT READS IS OF BULK AT MOST 1048576: true; the input reads as it did. -/
def controlChecksUptoRow : OpenClaim := { program := "ythekpbkmoejgmaa", sum := "ecf01f722af4a4a232de5e527ddd32d03ac47e57d2f050d0b4309e38d08a5df6", func := "papermill/papermilllaw25.ControlChecks", spec := "controlChecks", unfollowed := true, recurses := true, apart := false, narrowed := true }
def ControlChecksUptoSaid : Prop := controlChecksUptoRow.holds Try.pinned (OpenSpec.upto controlChecksSpec)

/-- 'papermilllaw25.ControlSteps', WHERE WHAT IT READS IS OF BULK AT MOST 1048576: true; the input reads as it did. -/
def controlStepsUptoRow : OpenClaim := { program := "ythekpbkmoejgmaa", sum := "ecf01f722af4a4a232de5e527ddd32d03ac47e57d2f050d0b4309e38d08a5df6", func := "papermill/papermilllaw25.ControlSteps", spec := "controlSteps", unfollowed := true, recurses := true, apart := false, narrowed := true }
def ControlStepsUptoSaid : Prop := controlStepsUptoRow.holds Try.pinned (OpenSpec.upto controlStepsSpec)

/-- 'papermilllaw25.ControlRuns', WHERE WHAT IT READS IS OF BULK AT MOST 1048576: true; the input reads as it did. -/
def controlRunsUptoRow : OpenClaim := { program := "ythekpbkmoejgmaa", sum := "ecf01f722af4a4a232de5e527ddd32d03ac47e57d2f050d0b4309e38d08a5df6", func := "papermill/papermilllaw25.ControlRuns", spec := "controlRuns", unfollowed := true, recurses := true, apart := false, narrowed := true }
def ControlRunsUptoSaid : Prop := controlRunsUptoRow.holds Try.pinned (OpenSpec.upto controlRunsSpec)

/-- 'papermilllaw25.ControlLimits', WHERE WHAT IT READS IS OF BULK AT MOST 1048576: true; the input reads as it did. -/
def controlLimitsUptoRow : OpenClaim := { program := "ythekpbkmoejgmaa", sum := "ecf01f722af4a4a232de5e527ddd32d03ac47e57d2f050d0b4309e38d08a5df6", func := "papermill/papermilllaw25.ControlLimits", spec := "controlLimits", unfollowed := true, recurses := true, apart := false, narrowed := true }
def ControlLimitsUptoSaid : Prop := controlLimitsUptoRow.holds Try.pinned (OpenSpec.upto controlLimitsSpec)

/-- 'papermilllaw25.ControlMonotone', WHERE WHAT IT READS IS OF BULK AT MOST 1048576: true; the input reads as it did. -/
def controlMonotoneUptoRow : OpenClaim := { program := "ythekpbkmoejgmaa", sum := "ecf01f722af4a4a232de5e527ddd32d03ac47e57d2f050d0b4309e38d08a5df6", func := "papermill/papermilllaw25.ControlMonotone", spec := "controlMonotone", unfollowed := true, recurses := true, apart := false, narrowed := true }
def ControlMonotoneUptoSaid : Prop := controlMonotoneUptoRow.holds Try.pinned (OpenSpec.upto controlMonotoneSpec)

/-- 'papermilllaw25.ControlRests', WHERE WHAT IT READS IS OF BULK AT MOST 1048576: true; the input reads as it did. -/
def controlRestsUptoRow : OpenClaim := { program := "ythekpbkmoejgmaa", sum := "ecf01f722af4a4a232de5e527ddd32d03ac47e57d2f050d0b4309e38d08a5df6", func := "papermill/papermilllaw25.ControlRests", spec := "controlRests", unfollowed := true, recurses := true, apart := false, narrowed := true }
def ControlRestsUptoSaid : Prop := controlRestsUptoRow.holds Try.pinned (OpenSpec.upto controlRestsSpec)

/-- 'papermilllaw25.ControlSaturates', WHERE WHAT IT READS IS OF BULK AT MOST 1048576: true; the input reads as it did. -/
def controlSaturatesUptoRow : OpenClaim := { program := "ythekpbkmoejgmaa", sum := "ecf01f722af4a4a232de5e527ddd32d03ac47e57d2f050d0b4309e38d08a5df6", func := "papermill/papermilllaw25.ControlSaturates", spec := "controlSaturates", unfollowed := true, recurses := true, apart := false, narrowed := true }
def ControlSaturatesUptoSaid : Prop := controlSaturatesUptoRow.holds Try.pinned (OpenSpec.upto controlSaturatesSpec)

end Rows
end Go.Proofs.Ythekpbkmoejgmaa
