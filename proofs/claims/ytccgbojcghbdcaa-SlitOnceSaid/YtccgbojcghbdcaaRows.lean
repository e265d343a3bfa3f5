/-
  No cell of these rows narrows 'for every input' (looked for: loops, veiled, ifaces, maps, wideKeys, modest, calm, conditions, laid).
  DERIVED. THE GIVEN ROWS OF THIS SEAT. 8 by the template 'for every input the law returns true; each argument reads behind the call as it read before'; 0 by the template 'total and deterministic' (their statements: YtccgbojcghbdcaaTotals.lean).
  GIVEN WITH THE SEED: the statements are not yours to turn. If you find one false, say at which input.
  Laid BY PROGRAM, IN A SANDBOX (cutbox-rows.mjs): the forced cells as the released guide's own fill.sh prints them over the translation d12030d0067f5da7… (all of the seat's roots in one cut). By AI agents, Wed Nov 11 2026. No macro, syntax, notation, axiom, sorry.
-/
import Derived.Test.YtccgbojcghbdcaaChecked
import GoSem.Claim
import GoSem.ClaimJoined
import GoSem.ClaimMapViews
import Derived.JoinedTies
import Derived.KernelRfl
namespace Go.Proofs.Ytccgbojcghbdcaa
/- THE CELL 'sum', in the pinned program and in every row, IS THE sha256 OF THE DUMP (.gsa) THAT YtccgbojcghbdcaaProg.lean LOADS. Nothing in Lean hashes anything: it is a label: what it is worth is what the hold of that sum in a sandbox is worth. -/
noncomputable def Try.pinned : Pinned := { name := "ytccgbojcghbdcaa", sum := "d12030d0067f5da71f0cdc5bae2a8eecdbc3d47dbd48acc2c73d0b2eaab629cd", checked := Try.checked }
namespace Rows
def none {H : Type} : Left H := { results := [], args := [] }

/-- 'papermilllaw39.SlitChecks': WHATEVER THE INPUT: true; the input reads as it did. -/
def slitChecksSpec : ChangeSpec := { name := "slitChecks", fn := fun _ => fun
  | [d1, d2] => { results := [.lit (.bool true)], args := [d1, d2] }
  | _ => none }
def slitChecksRow : OpenClaim := { program := "ytccgbojcghbdcaa", sum := "d12030d0067f5da71f0cdc5bae2a8eecdbc3d47dbd48acc2c73d0b2eaab629cd", func := "papermill/papermilllaw39.SlitChecks", spec := "slitChecks", unfollowed := true, recurses := true, apart := false }
def SlitChecksSaid : Prop := slitChecksRow.holds Try.pinned (OpenSpec.ofChange slitChecksSpec)

/-- ITS FALSE NEIGHBOUR: 'it returns false'. Refute it at one input. -/
def slitChecksWrong : ChangeSpec := { name := "slitChecks", fn := fun _ => fun
  | [d1, d2] => { results := [.lit (.bool false)], args := [d1, d2] }
  | _ => none }
def SlitChecksWrongFalsely : Prop := slitChecksRow.holds Try.pinned (OpenSpec.ofChange slitChecksWrong)

/-- 'papermilllaw39.SlitStrips': WHATEVER THE INPUT: true; the input reads as it did. -/
def slitStripsSpec : ChangeSpec := { name := "slitStrips", fn := fun _ => fun
  | [d1, d2] => { results := [.lit (.bool true)], args := [d1, d2] }
  | _ => none }
def slitStripsRow : OpenClaim := { program := "ytccgbojcghbdcaa", sum := "d12030d0067f5da71f0cdc5bae2a8eecdbc3d47dbd48acc2c73d0b2eaab629cd", func := "papermill/papermilllaw39.SlitStrips", spec := "slitStrips", unfollowed := true, recurses := true, apart := false }
def SlitStripsSaid : Prop := slitStripsRow.holds Try.pinned (OpenSpec.ofChange slitStripsSpec)

/-- ITS FALSE NEIGHBOUR: 'it returns false'. Refute it at one input. -/
def slitStripsWrong : ChangeSpec := { name := "slitStrips", fn := fun _ => fun
  | [d1, d2] => { results := [.lit (.bool false)], args := [d1, d2] }
  | _ => none }
def SlitStripsWrongFalsely : Prop := slitStripsRow.holds Try.pinned (OpenSpec.ofChange slitStripsWrong)

/-- 'papermilllaw39.SlitSets': WHATEVER THE INPUT: true; the input reads as it did. -/
def slitSetsSpec : ChangeSpec := { name := "slitSets", fn := fun _ => fun
  | [d] => { results := [.lit (.bool true)], args := [d] }
  | _ => none }
def slitSetsRow : OpenClaim := { program := "ytccgbojcghbdcaa", sum := "d12030d0067f5da71f0cdc5bae2a8eecdbc3d47dbd48acc2c73d0b2eaab629cd", func := "papermill/papermilllaw39.SlitSets", spec := "slitSets", unfollowed := true, recurses := true, apart := false }
def SlitSetsSaid : Prop := slitSetsRow.holds Try.pinned (OpenSpec.ofChange slitSetsSpec)

/-- ITS FALSE NEIGHBOUR: 'it returns false'. Refute it at one input. -/
def slitSetsWrong : ChangeSpec := { name := "slitSets", fn := fun _ => fun
  | [d] => { results := [.lit (.bool false)], args := [d] }
  | _ => none }
def SlitSetsWrongFalsely : Prop := slitSetsRow.holds Try.pinned (OpenSpec.ofChange slitSetsWrong)

/-- 'papermilllaw39.SlitPlaces': WHATEVER THE INPUT: true; the input reads as it did. -/
def slitPlacesSpec : ChangeSpec := { name := "slitPlaces", fn := fun _ => fun
  | [d1, d2, d3] => { results := [.lit (.bool true)], args := [d1, d2, d3] }
  | _ => none }
def slitPlacesRow : OpenClaim := { program := "ytccgbojcghbdcaa", sum := "d12030d0067f5da71f0cdc5bae2a8eecdbc3d47dbd48acc2c73d0b2eaab629cd", func := "papermill/papermilllaw39.SlitPlaces", spec := "slitPlaces", unfollowed := true, recurses := true, apart := false }
def SlitPlacesSaid : Prop := slitPlacesRow.holds Try.pinned (OpenSpec.ofChange slitPlacesSpec)

/-- ITS FALSE NEIGHBOUR: 'it returns false'. Refute it at one input. -/
def slitPlacesWrong : ChangeSpec := { name := "slitPlaces", fn := fun _ => fun
  | [d1, d2, d3] => { results := [.lit (.bool false)], args := [d1, d2, d3] }
  | _ => none }
def SlitPlacesWrongFalsely : Prop := slitPlacesRow.holds Try.pinned (OpenSpec.ofChange slitPlacesWrong)

/-- 'papermilllaw39.SlitCovers': WHATEVER THE INPUT: true; the input reads as it did. -/
def slitCoversSpec : ChangeSpec := { name := "slitCovers", fn := fun _ => fun
  | [d1, d2] => { results := [.lit (.bool true)], args := [d1, d2] }
  | _ => none }
def slitCoversRow : OpenClaim := { program := "ytccgbojcghbdcaa", sum := "d12030d0067f5da71f0cdc5bae2a8eecdbc3d47dbd48acc2c73d0b2eaab629cd", func := "papermill/papermilllaw39.SlitCovers", spec := "slitCovers", unfollowed := true, recurses := true, apart := false }
def SlitCoversSaid : Prop := slitCoversRow.holds Try.pinned (OpenSpec.ofChange slitCoversSpec)

/-- ITS FALSE NEIGHBOUR: 'it returns false'. Refute it at one input. -/
def slitCoversWrong : ChangeSpec := { name := "slitCovers", fn := fun _ => fun
  | [d1, d2] => { results := [.lit (.bool false)], args := [d1, d2] }
  | _ => none }
def SlitCoversWrongFalsely : Prop := slitCoversRow.holds Try.pinned (OpenSpec.ofChange slitCoversWrong)

/-- 'papermilllaw39.SlitOnce': WHATEVER THE INPUT: true; the input reads as it did. -/
def slitOnceSpec : ChangeSpec := { name := "slitOnce", fn := fun _ => fun
  | [d1, d2, d3] => { results := [.lit (.bool true)], args := [d1, d2, d3] }
  | _ => none }
def slitOnceRow : OpenClaim := { program := "ytccgbojcghbdcaa", sum := "d12030d0067f5da71f0cdc5bae2a8eecdbc3d47dbd48acc2c73d0b2eaab629cd", func := "papermill/papermilllaw39.SlitOnce", spec := "slitOnce", unfollowed := true, recurses := true, apart := false }
def SlitOnceSaid : Prop := slitOnceRow.holds Try.pinned (OpenSpec.ofChange slitOnceSpec)

/-- ITS FALSE NEIGHBOUR: 'it returns false'. Refute it at one input. -/
def slitOnceWrong : ChangeSpec := { name := "slitOnce", fn := fun _ => fun
  | [d1, d2, d3] => { results := [.lit (.bool false)], args := [d1, d2, d3] }
  | _ => none }
def SlitOnceWrongFalsely : Prop := slitOnceRow.holds Try.pinned (OpenSpec.ofChange slitOnceWrong)

/-- 'papermilllaw39.SlitTurned': WHATEVER THE INPUT: true; the input reads as it did. -/
def slitTurnedSpec : ChangeSpec := { name := "slitTurned", fn := fun _ => fun
  | [d1, d2, d3] => { results := [.lit (.bool true)], args := [d1, d2, d3] }
  | _ => none }
def slitTurnedRow : OpenClaim := { program := "ytccgbojcghbdcaa", sum := "d12030d0067f5da71f0cdc5bae2a8eecdbc3d47dbd48acc2c73d0b2eaab629cd", func := "papermill/papermilllaw39.SlitTurned", spec := "slitTurned", unfollowed := true, recurses := true, apart := false }
def SlitTurnedSaid : Prop := slitTurnedRow.holds Try.pinned (OpenSpec.ofChange slitTurnedSpec)

/-- ITS FALSE NEIGHBOUR: 'it returns false'. Refute it at one input. -/
def slitTurnedWrong : ChangeSpec := { name := "slitTurned", fn := fun _ => fun
  | [d1, d2, d3] => { results := [.lit (.bool false)], args := [d1, d2, d3] }
  | _ => none }
def SlitTurnedWrongFalsely : Prop := slitTurnedRow.holds Try.pinned (OpenSpec.ofChange slitTurnedWrong)

/-- 'papermilllaw39.SlitPattern': WHATEVER THE INPUT: true; the input reads as it did. -/
def slitPatternSpec : ChangeSpec := { name := "slitPattern", fn := fun _ => fun
  | [d1, d2] => { results := [.lit (.bool true)], args := [d1, d2] }
  | _ => none }
def slitPatternRow : OpenClaim := { program := "ytccgbojcghbdcaa", sum := "d12030d0067f5da71f0cdc5bae2a8eecdbc3d47dbd48acc2c73d0b2eaab629cd", func := "papermill/papermilllaw39.SlitPattern", spec := "slitPattern", unfollowed := true, recurses := true, apart := false }
def SlitPatternSaid : Prop := slitPatternRow.holds Try.pinned (OpenSpec.ofChange slitPatternSpec)

/-- ITS FALSE NEIGHBOUR: 'it returns false'. Refute it at one input. -/
def slitPatternWrong : ChangeSpec := { name := "slitPattern", fn := fun _ => fun
  | [d1, d2] => { results := [.lit (.bool false)], args := [d1, d2] }
  | _ => none }
def SlitPatternWrongFalsely : Prop := slitPatternRow.holds Try.pinned (OpenSpec.ofChange slitPatternWrong)

/- THE SECOND FORM. 'bulk': how many values and letters a reading holds, each counted each time it is reached (what is shared counts as often as it is met; a slice's spare places count too). A statement '..UptoSaid' is the law's where the arguments, and the package variables that the reading takes, are together of bulk at most 1048576: NARROWER than '..Said'. Prove '..Said' where nothing that the law and all that it calls make is longer than what came in: it says more and counts as full. Else prove '..UptoSaid'. A law counts once. -/
mutual
def uptoBulk {H : Type} : DataW H → Nat
  | .lit (.string bytes) => bytes.length + 1
  | .lit _ => 1
  | .nil => 1
  | .ptr d => uptoBulk d + 1
  | .slice elems spare => uptoBulkAll elems + uptoBulkAll spare + 1
  | .agg parts => uptoBulkAll parts + 1
  | .iface _ d => uptoBulk d + 1
  | .map entries => uptoBulkEntries entries + 1
  | .held _ => 1
def uptoBulkAll {H : Type} : List (DataW H) → Nat
  | [] => 0
  | d :: r => uptoBulk d + uptoBulkAll r
def uptoBulkEntries {H : Type} : List (Lit × DataW H) → Nat
  | [] => 0
  | x :: r => uptoBulkEntry x + uptoBulkEntries r
def uptoBulkEntry {H : Type} : Lit × DataW H → Nat
  | (.string bytes, d) => bytes.length + uptoBulk d + 1
  | (_, d) => uptoBulk d + 1
 end
def uptoSmall : (H : Type) → List (DataW H) → Bool := fun _ ds => decide (uptoBulkAll ds ≤ 1048576)
def OpenSpec.upto (s : _root_.Go.ChangeSpec) : _root_.Go.OpenSpec := { _root_.Go.OpenSpec.ofChange s with cond := some uptoSmall }

/-- 'papermilllaw39.SlitChecks', WHERE WHAT IT READS IS OF BULK AT MOST 1048576: true; the input reads as it did. -/
def slitChecksUptoRow : OpenClaim := { program := "ytccgbojcghbdcaa", sum := "d12030d0067f5da71f0cdc5bae2a8eecdbc3d47dbd48acc2c73d0b2eaab629cd", func := "papermill/papermilllaw39.SlitChecks", spec := "slitChecks", unfollowed := true, recurses := true, apart := false, narrowed := true }
def SlitChecksUptoSaid : Prop := slitChecksUptoRow.holds Try.pinned (OpenSpec.upto slitChecksSpec)

/-- 'papermilllaw39.SlitStrips', WHERE WHAT IT READS IS OF BULK AT MOST 1048576: true; the input reads as it did. -/
def slitStripsUptoRow : OpenClaim := { program := "ytccgbojcghbdcaa", sum := "d12030d0067f5da71f0cdc5bae2a8eecdbc3d47dbd48acc2c73d0b2eaab629cd", func := "papermill/papermilllaw39.SlitStrips", spec := "slitStrips", unfollowed := true, recurses := true, apart := false, narrowed := true }
def SlitStripsUptoSaid : Prop := slitStripsUptoRow.holds Try.pinned (OpenSpec.upto slitStripsSpec)

/-- 'papermilllaw39.SlitSets', WHERE WHAT IT READS IS OF BULK AT MOST 1048576: true; the input reads as it did. -/
def slitSetsUptoRow : OpenClaim := { program := "ytccgbojcghbdcaa", sum := "d12030d0067f5da71f0cdc5bae2a8eecdbc3d47dbd48acc2c73d0b2eaab629cd", func := "papermill/papermilllaw39.SlitSets", spec := "slitSets", unfollowed := true, recurses := true, apart := false, narrowed := true }
def SlitSetsUptoSaid : Prop := slitSetsUptoRow.holds Try.pinned (OpenSpec.upto slitSetsSpec)

/-- 'papermilllaw39.SlitPlaces', WHERE WHAT IT READS IS OF BULK AT MOST 1048576: true; the input reads as it did. -/
def slitPlacesUptoRow : OpenClaim := { program := "ytccgbojcghbdcaa", sum := "d12030d0067f5da71f0cdc5bae2a8eecdbc3d47dbd48acc2c73d0b2eaab629cd", func := "papermill/papermilllaw39.SlitPlaces", spec := "slitPlaces", unfollowed := true, recurses := true, apart := false, narrowed := true }
def SlitPlacesUptoSaid : Prop := slitPlacesUptoRow.holds Try.pinned (OpenSpec.upto slitPlacesSpec)

/-- 'papermilllaw39.SlitCovers', WHERE WHAT IT READS IS OF BULK AT MOST 1048576: true; the input reads as it did. -/
def slitCoversUptoRow : OpenClaim := { program := "ytccgbojcghbdcaa", sum := "d12030d0067f5da71f0cdc5bae2a8eecdbc3d47dbd48acc2c73d0b2eaab629cd", func := "papermill/papermilllaw39.SlitCovers", spec := "slitCovers", unfollowed := true, recurses := true, apart := false, narrowed := true }
def SlitCoversUptoSaid : Prop := slitCoversUptoRow.holds Try.pinned (OpenSpec.upto slitCoversSpec)

/-- 'papermilllaw39.SlitOnce', WHERE WHAT IT READS IS OF BULK AT MOST 1048576: true; the input reads as it did. -/
def slitOnceUptoRow : OpenClaim := { program := "ytccgbojcghbdcaa", sum := "d12030d0067f5da71f0cdc5bae2a8eecdbc3d47dbd48acc2c73d0b2eaab629cd", func := "papermill/papermilllaw39.SlitOnce", spec := "slitOnce", unfollowed := true, recurses := true, apart := false, narrowed := true }
def SlitOnceUptoSaid : Prop := slitOnceUptoRow.holds Try.pinned (OpenSpec.upto slitOnceSpec)

/-- 'papermilllaw39.SlitTurned', WHERE WHAT IT READS IS OF BULK AT MOST 1048576: true; the input reads as it did. -/
def slitTurnedUptoRow : OpenClaim := { program := "ytccgbojcghbdcaa", sum := "d12030d0067f5da71f0cdc5bae2a8eecdbc3d47dbd48acc2c73d0b2eaab629cd", func := "papermill/papermilllaw39.SlitTurned", spec := "slitTurned", unfollowed := true, recurses := true, apart := false, narrowed := true }
def SlitTurnedUptoSaid : Prop := slitTurnedUptoRow.holds Try.pinned (OpenSpec.upto slitTurnedSpec)

/-- 'papermilllaw39.SlitPattern', WHERE WHAT IT READS IS OF BULK AT MOST 1048576: true; the input reads as it did. -/
def slitPatternUptoRow : OpenClaim := { program := "ytccgbojcghbdcaa", sum := "d12030d0067f5da71f0cdc5bae2a8eecdbc3d47dbd48acc2c73d0b2eaab629cd", func := "papermill/papermilllaw39.SlitPattern", spec := "slitPattern", unfollowed := true, recurses := true, apart := false, narrowed := true }
def SlitPatternUptoSaid : Prop := slitPatternUptoRow.holds Try.pinned (OpenSpec.upto slitPatternSpec)

end Rows
end Go.Proofs.Ytccgbojcghbdcaa
