/-
  No cell of these rows narrows 'for every input' (looked for: loops, veiled, ifaces, maps, wideKeys, modest, calm, conditions, laid).
  DERIVED. THE GIVEN ROWS OF THIS SEAT. 9 by the template 'for every input the law returns true; each argument reads behind the call as it read before'; 0 by the template 'total and deterministic' (their statements: YtiphcdjfmihliaaTotals.lean).
  GIVEN WITH THE SEED: the statements are not yours to turn. If you find one false, say at which input.
  Laid BY PROGRAM, IN A SANDBOX (cutbox-rows.mjs): the forced cells as the released guide's own fill.sh prints them over the translation f10d56ce63e32eff… (all of the seat's roots in one cut). By AI agents, Wed Nov 11 2026. No macro, syntax, notation, axiom, sorry.
-/
import Derived.Test.YtiphcdjfmihliaaChecked
import GoSem.Claim
import GoSem.ClaimJoined
import GoSem.ClaimMapViews
import Derived.JoinedTies
import Derived.KernelRfl
namespace Go.Proofs.Ytiphcdjfmihliaa
/- THE CELL 'sum', in the pinned program and in every row, IS THE sha256 OF THE DUMP (.gsa) THAT YtiphcdjfmihliaaProg.lean LOADS. Nothing in Lean hashes anything: it is a label: what it is worth is what the hold of that sum in a sandbox is worth. -/
noncomputable def Try.pinned : Pinned := { name := "ytiphcdjfmihliaa", sum := "f10d56ce63e32eff56225057b6809cc488a2a052eb58da1bed119e924f22ce7c", checked := Try.checked }
namespace Rows
def none {H : Type} : Left H := { results := [], args := [] }

/-- 'papermilllaw26.ProcessChecks': WHATEVER THE INPUT: true; the input reads as it did. -/
def processChecksSpec : ChangeSpec := { name := "processChecks", fn := fun _ => fun
  | [d1, d2] => { results := [.lit (.bool true)], args := [d1, d2] }
  | _ => none }
def processChecksRow : OpenClaim := { program := "ytiphcdjfmihliaa", sum := "f10d56ce63e32eff56225057b6809cc488a2a052eb58da1bed119e924f22ce7c", func := "papermill/papermilllaw26.ProcessChecks", spec := "processChecks", apart := false }
def ProcessChecksSaid : Prop := processChecksRow.holds Try.pinned (OpenSpec.ofChange processChecksSpec)

/-- ITS FALSE NEIGHBOUR: 'it returns false'. Refute it at one input. -/
def processChecksWrong : ChangeSpec := { name := "processChecks", fn := fun _ => fun
  | [d1, d2] => { results := [.lit (.bool false)], args := [d1, d2] }
  | _ => none }
def ProcessChecksWrongFalsely : Prop := processChecksRow.holds Try.pinned (OpenSpec.ofChange processChecksWrong)

/-- 'papermilllaw26.ProcessSteps': WHATEVER THE INPUT: true; the input reads as it did. -/
def processStepsSpec : ChangeSpec := { name := "processSteps", fn := fun _ => fun
  | [d1, d2, d3] => { results := [.lit (.bool true)], args := [d1, d2, d3] }
  | _ => none }
def processStepsRow : OpenClaim := { program := "ytiphcdjfmihliaa", sum := "f10d56ce63e32eff56225057b6809cc488a2a052eb58da1bed119e924f22ce7c", func := "papermill/papermilllaw26.ProcessSteps", spec := "processSteps", apart := false }
def ProcessStepsSaid : Prop := processStepsRow.holds Try.pinned (OpenSpec.ofChange processStepsSpec)

/-- ITS FALSE NEIGHBOUR: 'it returns false'. Refute it at one input. -/
def processStepsWrong : ChangeSpec := { name := "processSteps", fn := fun _ => fun
  | [d1, d2, d3] => { results := [.lit (.bool false)], args := [d1, d2, d3] }
  | _ => none }
def ProcessStepsWrongFalsely : Prop := processStepsRow.holds Try.pinned (OpenSpec.ofChange processStepsWrong)

/-- 'papermilllaw26.ProcessRests': WHATEVER THE INPUT: true; the input reads as it did. -/
def processRestsSpec : ChangeSpec := { name := "processRests", fn := fun _ => fun
  | [d1, d2] => { results := [.lit (.bool true)], args := [d1, d2] }
  | _ => none }
def processRestsRow : OpenClaim := { program := "ytiphcdjfmihliaa", sum := "f10d56ce63e32eff56225057b6809cc488a2a052eb58da1bed119e924f22ce7c", func := "papermill/papermilllaw26.ProcessRests", spec := "processRests", apart := false }
def ProcessRestsSaid : Prop := processRestsRow.holds Try.pinned (OpenSpec.ofChange processRestsSpec)

/-- ITS FALSE NEIGHBOUR: 'it returns false'. Refute it at one input. -/
def processRestsWrong : ChangeSpec := { name := "processRests", fn := fun _ => fun
  | [d1, d2] => { results := [.lit (.bool false)], args := [d1, d2] }
  | _ => none }
def ProcessRestsWrongFalsely : Prop := processRestsRow.holds Try.pinned (OpenSpec.ofChange processRestsWrong)

/-- 'papermilllaw26.ProcessBounds': WHATEVER THE INPUT: true; the input reads as it did. -/
def processBoundsSpec : ChangeSpec := { name := "processBounds", fn := fun _ => fun
  | [d1, d2, d3] => { results := [.lit (.bool true)], args := [d1, d2, d3] }
  | _ => none }
def processBoundsRow : OpenClaim := { program := "ytiphcdjfmihliaa", sum := "f10d56ce63e32eff56225057b6809cc488a2a052eb58da1bed119e924f22ce7c", func := "papermill/papermilllaw26.ProcessBounds", spec := "processBounds", apart := false }
def ProcessBoundsSaid : Prop := processBoundsRow.holds Try.pinned (OpenSpec.ofChange processBoundsSpec)

/-- ITS FALSE NEIGHBOUR: 'it returns false'. Refute it at one input. -/
def processBoundsWrong : ChangeSpec := { name := "processBounds", fn := fun _ => fun
  | [d1, d2, d3] => { results := [.lit (.bool false)], args := [d1, d2, d3] }
  | _ => none }
def ProcessBoundsWrongFalsely : Prop := processBoundsRow.holds Try.pinned (OpenSpec.ofChange processBoundsWrong)

/-- 'papermilllaw26.ProcessOrder': WHATEVER THE INPUT: true; the input reads as it did. -/
def processOrderSpec : ChangeSpec := { name := "processOrder", fn := fun _ => fun
  | [d1, d2, d3] => { results := [.lit (.bool true)], args := [d1, d2, d3] }
  | _ => none }
def processOrderRow : OpenClaim := { program := "ytiphcdjfmihliaa", sum := "f10d56ce63e32eff56225057b6809cc488a2a052eb58da1bed119e924f22ce7c", func := "papermill/papermilllaw26.ProcessOrder", spec := "processOrder", apart := false }
def ProcessOrderSaid : Prop := processOrderRow.holds Try.pinned (OpenSpec.ofChange processOrderSpec)

/-- ITS FALSE NEIGHBOUR: 'it returns false'. Refute it at one input. -/
def processOrderWrong : ChangeSpec := { name := "processOrder", fn := fun _ => fun
  | [d1, d2, d3] => { results := [.lit (.bool false)], args := [d1, d2, d3] }
  | _ => none }
def ProcessOrderWrongFalsely : Prop := processOrderRow.holds Try.pinned (OpenSpec.ofChange processOrderWrong)

/-- 'papermilllaw26.ProcessDead': WHATEVER THE INPUT: true; the input reads as it did. -/
def processDeadSpec : ChangeSpec := { name := "processDead", fn := fun _ => fun
  | [d1, d2, d3] => { results := [.lit (.bool true)], args := [d1, d2, d3] }
  | _ => none }
def processDeadRow : OpenClaim := { program := "ytiphcdjfmihliaa", sum := "f10d56ce63e32eff56225057b6809cc488a2a052eb58da1bed119e924f22ce7c", func := "papermill/papermilllaw26.ProcessDead", spec := "processDead", apart := false }
def ProcessDeadSaid : Prop := processDeadRow.holds Try.pinned (OpenSpec.ofChange processDeadSpec)

/-- ITS FALSE NEIGHBOUR: 'it returns false'. Refute it at one input. -/
def processDeadWrong : ChangeSpec := { name := "processDead", fn := fun _ => fun
  | [d1, d2, d3] => { results := [.lit (.bool false)], args := [d1, d2, d3] }
  | _ => none }
def ProcessDeadWrongFalsely : Prop := processDeadRow.holds Try.pinned (OpenSpec.ofChange processDeadWrong)

/-- 'papermilllaw26.ProcessSteady': WHATEVER THE INPUT: true; the input reads as it did. -/
def processSteadySpec : ChangeSpec := { name := "processSteady", fn := fun _ => fun
  | [d1, d2, d3] => { results := [.lit (.bool true)], args := [d1, d2, d3] }
  | _ => none }
def processSteadyRow : OpenClaim := { program := "ytiphcdjfmihliaa", sum := "f10d56ce63e32eff56225057b6809cc488a2a052eb58da1bed119e924f22ce7c", func := "papermill/papermilllaw26.ProcessSteady", spec := "processSteady", apart := false }
def ProcessSteadySaid : Prop := processSteadyRow.holds Try.pinned (OpenSpec.ofChange processSteadySpec)

/-- ITS FALSE NEIGHBOUR: 'it returns false'. Refute it at one input. -/
def processSteadyWrong : ChangeSpec := { name := "processSteady", fn := fun _ => fun
  | [d1, d2, d3] => { results := [.lit (.bool false)], args := [d1, d2, d3] }
  | _ => none }
def ProcessSteadyWrongFalsely : Prop := processSteadyRow.holds Try.pinned (OpenSpec.ofChange processSteadyWrong)

/-- 'papermilllaw26.ProcessNearest': WHATEVER THE INPUT: true; the input reads as it did. -/
def processNearestSpec : ChangeSpec := { name := "processNearest", fn := fun _ => fun
  | [d1, d2] => { results := [.lit (.bool true)], args := [d1, d2] }
  | _ => none }
def processNearestRow : OpenClaim := { program := "ytiphcdjfmihliaa", sum := "f10d56ce63e32eff56225057b6809cc488a2a052eb58da1bed119e924f22ce7c", func := "papermill/papermilllaw26.ProcessNearest", spec := "processNearest", apart := false }
def ProcessNearestSaid : Prop := processNearestRow.holds Try.pinned (OpenSpec.ofChange processNearestSpec)

/-- ITS FALSE NEIGHBOUR: 'it returns false'. Refute it at one input. -/
def processNearestWrong : ChangeSpec := { name := "processNearest", fn := fun _ => fun
  | [d1, d2] => { results := [.lit (.bool false)], args := [d1, d2] }
  | _ => none }
def ProcessNearestWrongFalsely : Prop := processNearestRow.holds Try.pinned (OpenSpec.ofChange processNearestWrong)

/-- 'papermilllaw26.ProcessNil': WHATEVER THE INPUT: true; the input reads as it did. -/
def processNilSpec : ChangeSpec := { name := "processNil", fn := fun _ => fun
  | [d1, d2] => { results := [.lit (.bool true)], args := [d1, d2] }
  | _ => none }
def processNilRow : OpenClaim := { program := "ytiphcdjfmihliaa", sum := "f10d56ce63e32eff56225057b6809cc488a2a052eb58da1bed119e924f22ce7c", func := "papermill/papermilllaw26.ProcessNil", spec := "processNil", apart := false }
def ProcessNilSaid : Prop := processNilRow.holds Try.pinned (OpenSpec.ofChange processNilSpec)

/-- ITS FALSE NEIGHBOUR: 'it returns false'. Refute it at one input. -/
def processNilWrong : ChangeSpec := { name := "processNil", fn := fun _ => fun
  | [d1, d2] => { results := [.lit (.bool false)], args := [d1, d2] }
  | _ => none }
def ProcessNilWrongFalsely : Prop := processNilRow.holds Try.pinned (OpenSpec.ofChange processNilWrong)

/- THE SECOND FORM. 'bulk': how many values and letters a reading holds, each counted each time it is reached (what is shared counts as often as it is met; a slice's spare places count too). A statement '..UptoSaid' is the law's where the arguments, and the package variables that the reading takes, are together of bulk at most 1048576: NARROWER than '..Said'. Prove '..Said' where nothing that the law and all that it calls make is longer than what came in: it says more and counts as full. Else prove '..UptoSaid'. A law counts once. -/
mutual
def uptoBulk {H : Type} : DataW H → Nat
  | .lit (.string bytes) => bytes.length + 1
  | .lit _ => 1
  | .nil => 1
  | .ptr d => uptoBulk d + 1
  | .slice elems spare => uptoBulkAll elems + uptoBulkAll spare + 1
  | .agg parts => uptoBulkAll parts + 1
  | .iface _ d => uptoBulk d + 1
  | .map entries => uptoBulkEntries entries + 1
  | .held _ => 1
def uptoBulkAll {H : Type} : List (DataW H) → Nat
  | [] => 0
  | d :: r => uptoBulk d + uptoBulkAll r
def uptoBulkEntries {H : Type} : List (Lit × DataW H) → Nat
  | [] => 0
  | x :: r => uptoBulkEntry x + uptoBulkEntries r
def uptoBulkEntry {H : Type} : Lit × DataW H → Nat
  | (.string bytes, d) => bytes.length + uptoBulk d + 1
  | (_, d) => uptoBulk d + 1
 end
def uptoSmall : (H : Type) → List (DataW H) → Bool := fun _ ds => decide (uptoBulkAll ds ≤ 1048576)
def OpenSpec.upto (s : _root_.Go.ChangeSpec) : _root_.Go.OpenSpec := { _root_.Go.OpenSpec.ofChange s with cond := some uptoSmall }

/-- 'papermilllaw26.ProcessChecks', WHERE WHAT IT READS IS OF BULK AT MOST 1048576: true; the input reads as it did. -/
def processChecksUptoRow : OpenClaim := { program := "ytiphcdjfmihliaa", sum := "f10d56ce63e32eff56225057b6809cc488a2a052eb58da1bed119e924f22ce7c", func := "papermill/papermilllaw26.ProcessChecks", spec := "processChecks", apart := false, narrowed := true }
def ProcessChecksUptoSaid : Prop := processChecksUptoRow.holds Try.pinned (OpenSpec.upto processChecksSpec)

/-- 'papermilllaw26.ProcessSteps', WHERE WHAT IT READS IS OF BULK AT MOST 1048576: true; the input reads as it did. -/
def processStepsUptoRow : OpenClaim := { program := "ytiphcdjfmihliaa", sum := "f10d56ce63e32eff56225057b6809cc488a2a052eb58da1bed119e924f22ce7c", func := "papermill/papermilllaw26.ProcessSteps", spec := "processSteps", apart := false, narrowed := true }
def ProcessStepsUptoSaid : Prop := processStepsUptoRow.holds Try.pinned (OpenSpec.upto processStepsSpec)

/-- 'papermilllaw26.ProcessRests', WHERE WHAT IT READS IS OF BULK AT MOST 1048576: true; the input reads as it did. -/
def processRestsUptoRow : OpenClaim := { program := "ytiphcdjfmihliaa", sum := "f10d56ce63e32eff56225057b6809cc488a2a052eb58da1bed119e924f22ce7c", func := "papermill/papermilllaw26.ProcessRests", spec := "processRests", apart := false, narrowed := true }
def ProcessRestsUptoSaid : Prop := processRestsUptoRow.holds Try.pinned (OpenSpec.upto processRestsSpec)

/-- 'papermilllaw26.ProcessBounds', WHERE WHAT IT READS IS OF BULK AT MOST 1048576: true; the input reads as it did. -/
def processBoundsUptoRow : OpenClaim := { program := "ytiphcdjfmihliaa", sum := "f10d56ce63e32eff56225057b6809cc488a2a052eb58da1bed119e924f22ce7c", func := "papermill/papermilllaw26.ProcessBounds", spec := "processBounds", apart := false, narrowed := true }
def ProcessBoundsUptoSaid : Prop := processBoundsUptoRow.holds Try.pinned (OpenSpec.upto processBoundsSpec)

/-- 'papermilllaw26.ProcessOrder', WHERE WHAT IT READS IS OF BULK AT MOST 1048576: true; the input reads as it did. -/
def processOrderUptoRow : OpenClaim := { program := "ytiphcdjfmihliaa", sum := "f10d56ce63e32eff56225057b6809cc488a2a052eb58da1bed119e924f22ce7c", func := "papermill/papermilllaw26.ProcessOrder", spec := "processOrder", apart := false, narrowed := true }
def ProcessOrderUptoSaid : Prop := processOrderUptoRow.holds Try.pinned (OpenSpec.upto processOrderSpec)

/-- 'papermilllaw26.ProcessDead', WHERE WHAT IT READS IS OF BULK AT MOST 1048576: true; the input reads as it did. -/
def processDeadUptoRow : OpenClaim := { program := "ytiphcdjfmihliaa", sum := "f10d56ce63e32eff56225057b6809cc488a2a052eb58da1bed119e924f22ce7c", func := "papermill/papermilllaw26.ProcessDead", spec := "processDead", apart := false, narrowed := true }
def ProcessDeadUptoSaid : Prop := processDeadUptoRow.holds Try.pinned (OpenSpec.upto processDeadSpec)

/-- 'papermilllaw26.ProcessSteady', WHERE WHAT IT READS IS OF BULK AT MOST 1048576: true; the input reads as it did. -/
def processSteadyUptoRow : OpenClaim := { program := "ytiphcdjfmihliaa", sum := "f10d56ce63e32eff56225057b6809cc488a2a052eb58da1bed119e924f22ce7c", func := "papermill/papermilllaw26.ProcessSteady", spec := "processSteady", apart := false, narrowed := true }
def ProcessSteadyUptoSaid : Prop := processSteadyUptoRow.holds Try.pinned (OpenSpec.upto processSteadySpec)

/-- 'papermilllaw26.ProcessNearest', WHERE WHAT IT READS IS OF BULK AT MOST 1048576: true; the input reads as it did. -/
def processNearestUptoRow : OpenClaim := { program := "ytiphcdjfmihliaa", sum := "f10d56ce63e32eff56225057b6809cc488a2a052eb58da1bed119e924f22ce7c", func := "papermill/papermilllaw26.ProcessNearest", spec := "processNearest", apart := false, narrowed := true }
def ProcessNearestUptoSaid : Prop := processNearestUptoRow.holds Try.pinned (OpenSpec.upto processNearestSpec)

/-- 'papermilllaw26.ProcessNil', WHERE WHAT IT READS IS OF BULK AT MOST 1048576: true; the input reads as it did. -/
def processNilUptoRow : OpenClaim := { program := "ytiphcdjfmihliaa", sum := "f10d56ce63e32eff56225057b6809cc488a2a052eb58da1bed119e924f22ce7c", func := "papermill/papermilllaw26.ProcessNil", spec := "processNil", apart := false, narrowed := true }
def ProcessNilUptoSaid : Prop := processNilUptoRow.holds Try.pinned (OpenSpec.upto processNilSpec)

end Rows
end Go.Proofs.Ytiphcdjfmihliaa
