/-
  No cell of these rows narrows 'for every input' (looked for: loops, veiled, ifaces, maps, wideKeys, modest, calm, conditions, laid).
  DERIVED. THE GIVEN ROWS OF THIS SEAT. 7 by the template 'for every input the law returns true; each argument reads behind the call as it read before'; 0 by the template 'total and deterministic' (their statements: YtfdblofpfpmbhaaTotals.lean).
  GIVEN WITH THE SEED: the statements are not yours to turn. If you find one false, say at which input.
  Laid BY PROGRAM, IN A SANDBOX (cutbox-rows.mjs): the forced cells as the released guide's own fill.sh prints them over the translation ebb58a6bb8da884d… (all of the seat's roots in one cut). By AI agents, Wed Nov 11 2026. No macro, syntax, notation, axiom, sorry.
-/
import Derived.Test.YtfdblofpfpmbhaaChecked
import GoSem.Claim
import GoSem.ClaimJoined
import GoSem.ClaimMapViews
import Derived.JoinedTies
import Derived.KernelRfl
namespace Go.Proofs.Ytfdblofpfpmbhaa
/- THE CELL 'sum', in the pinned program and in every row, IS THE sha256 OF THE DUMP (.gsa) THAT YtfdblofpfpmbhaaProg.lean LOADS. Nothing in Lean hashes anything: it is a label: what it is worth is what the hold of that sum in a sandbox is worth. -/
noncomputable def Try.pinned : Pinned := { name := "ytfdblofpfpmbhaa", sum := "ebb58a6bb8da884dcf6607e2a023e67c9a04a5a82460569225f1acdfb93e782d", checked := Try.checked }
namespace Rows
def none {H : Type} : Left H := { results := [], args := [] }

/-- 'papermilllaw28.WebChecks': WHATEVER THE INPUT: true; the input reads as it did. -/
def webChecksSpec : ChangeSpec := { name := "webChecks", fn := fun _ => fun
  | [d1, d2] => { results := [.lit (.bool true)], args := [d1, d2] }
  | _ => none }
def webChecksRow : OpenClaim := { program := "ytfdblofpfpmbhaa", sum := "ebb58a6bb8da884dcf6607e2a023e67c9a04a5a82460569225f1acdfb93e782d", func := "papermill/papermilllaw28.WebChecks", spec := "webChecks", unfollowed := true, recurses := true, apart := false }
def WebChecksSaid : Prop := webChecksRow.holds Try.pinned (OpenSpec.ofChange webChecksSpec)

/-- ITS FALSE NEIGHBOUR: 'it returns false'. Refute it at one input. -/
def webChecksWrong : ChangeSpec := { name := "webChecks", fn := fun _ => fun
  | [d1, d2] => { results := [.lit (.bool false)], args := [d1, d2] }
  | _ => none }
def WebChecksWrongFalsely : Prop := webChecksRow.holds Try.pinned (OpenSpec.ofChange webChecksWrong)

/-- 'papermilllaw28.WebRuns': WHATEVER THE INPUT: true; the input reads as it did. -/
def webRunsSpec : ChangeSpec := { name := "webRuns", fn := fun _ => fun
  | [d1, d2] => { results := [.lit (.bool true)], args := [d1, d2] }
  | _ => none }
def webRunsRow : OpenClaim := { program := "ytfdblofpfpmbhaa", sum := "ebb58a6bb8da884dcf6607e2a023e67c9a04a5a82460569225f1acdfb93e782d", func := "papermill/papermilllaw28.WebRuns", spec := "webRuns", unfollowed := true, recurses := true, apart := false }
def WebRunsSaid : Prop := webRunsRow.holds Try.pinned (OpenSpec.ofChange webRunsSpec)

/-- ITS FALSE NEIGHBOUR: 'it returns false'. Refute it at one input. -/
def webRunsWrong : ChangeSpec := { name := "webRuns", fn := fun _ => fun
  | [d1, d2] => { results := [.lit (.bool false)], args := [d1, d2] }
  | _ => none }
def WebRunsWrongFalsely : Prop := webRunsRow.holds Try.pinned (OpenSpec.ofChange webRunsWrong)

/-- 'papermilllaw28.WebBounds': WHATEVER THE INPUT: true; the input reads as it did. -/
def webBoundsSpec : ChangeSpec := { name := "webBounds", fn := fun _ => fun
  | [d1, d2, d3] => { results := [.lit (.bool true)], args := [d1, d2, d3] }
  | _ => none }
def webBoundsRow : OpenClaim := { program := "ytfdblofpfpmbhaa", sum := "ebb58a6bb8da884dcf6607e2a023e67c9a04a5a82460569225f1acdfb93e782d", func := "papermill/papermilllaw28.WebBounds", spec := "webBounds", unfollowed := true, recurses := true, apart := false }
def WebBoundsSaid : Prop := webBoundsRow.holds Try.pinned (OpenSpec.ofChange webBoundsSpec)

/-- ITS FALSE NEIGHBOUR: 'it returns false'. Refute it at one input. -/
def webBoundsWrong : ChangeSpec := { name := "webBounds", fn := fun _ => fun
  | [d1, d2, d3] => { results := [.lit (.bool false)], args := [d1, d2, d3] }
  | _ => none }
def WebBoundsWrongFalsely : Prop := webBoundsRow.holds Try.pinned (OpenSpec.ofChange webBoundsWrong)

/-- 'papermilllaw28.WebLimits': WHATEVER THE INPUT: true; the input reads as it did. -/
def webLimitsSpec : ChangeSpec := { name := "webLimits", fn := fun _ => fun
  | [d1, d2, d3] => { results := [.lit (.bool true)], args := [d1, d2, d3] }
  | _ => none }
def webLimitsRow : OpenClaim := { program := "ytfdblofpfpmbhaa", sum := "ebb58a6bb8da884dcf6607e2a023e67c9a04a5a82460569225f1acdfb93e782d", func := "papermill/papermilllaw28.WebLimits", spec := "webLimits", unfollowed := true, recurses := true, apart := false }
def WebLimitsSaid : Prop := webLimitsRow.holds Try.pinned (OpenSpec.ofChange webLimitsSpec)

/-- ITS FALSE NEIGHBOUR: 'it returns false'. Refute it at one input. -/
def webLimitsWrong : ChangeSpec := { name := "webLimits", fn := fun _ => fun
  | [d1, d2, d3] => { results := [.lit (.bool false)], args := [d1, d2, d3] }
  | _ => none }
def WebLimitsWrongFalsely : Prop := webLimitsRow.holds Try.pinned (OpenSpec.ofChange webLimitsWrong)

/-- 'papermilllaw28.WebCoupled': WHATEVER THE INPUT: true; the input reads as it did. -/
def webCoupledSpec : ChangeSpec := { name := "webCoupled", fn := fun _ => fun
  | [d1, d2] => { results := [.lit (.bool true)], args := [d1, d2] }
  | _ => none }
def webCoupledRow : OpenClaim := { program := "ytfdblofpfpmbhaa", sum := "ebb58a6bb8da884dcf6607e2a023e67c9a04a5a82460569225f1acdfb93e782d", func := "papermill/papermilllaw28.WebCoupled", spec := "webCoupled", unfollowed := true, recurses := true, apart := false }
def WebCoupledSaid : Prop := webCoupledRow.holds Try.pinned (OpenSpec.ofChange webCoupledSpec)

/-- ITS FALSE NEIGHBOUR: 'it returns false'. Refute it at one input. -/
def webCoupledWrong : ChangeSpec := { name := "webCoupled", fn := fun _ => fun
  | [d1, d2] => { results := [.lit (.bool false)], args := [d1, d2] }
  | _ => none }
def WebCoupledWrongFalsely : Prop := webCoupledRow.holds Try.pinned (OpenSpec.ofChange webCoupledWrong)

/-- 'papermilllaw28.WebRests': WHATEVER THE INPUT: true; the input reads as it did. -/
def webRestsSpec : ChangeSpec := { name := "webRests", fn := fun _ => fun
  | [d1, d2, d3] => { results := [.lit (.bool true)], args := [d1, d2, d3] }
  | _ => none }
def webRestsRow : OpenClaim := { program := "ytfdblofpfpmbhaa", sum := "ebb58a6bb8da884dcf6607e2a023e67c9a04a5a82460569225f1acdfb93e782d", func := "papermill/papermilllaw28.WebRests", spec := "webRests", unfollowed := true, recurses := true, apart := false }
def WebRestsSaid : Prop := webRestsRow.holds Try.pinned (OpenSpec.ofChange webRestsSpec)

/-- ITS FALSE NEIGHBOUR: 'it returns false'. Refute it at one input. -/
def webRestsWrong : ChangeSpec := { name := "webRests", fn := fun _ => fun
  | [d1, d2, d3] => { results := [.lit (.bool false)], args := [d1, d2, d3] }
  | _ => none }
def WebRestsWrongFalsely : Prop := webRestsRow.holds Try.pinned (OpenSpec.ofChange webRestsWrong)

/-- 'papermilllaw28.WebBegins': WHATEVER THE INPUT: true; the input reads as it did. -/
def webBeginsSpec : ChangeSpec := { name := "webBegins", fn := fun _ => fun
  | [d1, d2, d3] => { results := [.lit (.bool true)], args := [d1, d2, d3] }
  | _ => none }
def webBeginsRow : OpenClaim := { program := "ytfdblofpfpmbhaa", sum := "ebb58a6bb8da884dcf6607e2a023e67c9a04a5a82460569225f1acdfb93e782d", func := "papermill/papermilllaw28.WebBegins", spec := "webBegins", unfollowed := true, recurses := true, apart := false }
def WebBeginsSaid : Prop := webBeginsRow.holds Try.pinned (OpenSpec.ofChange webBeginsSpec)

/-- ITS FALSE NEIGHBOUR: 'it returns false'. Refute it at one input. -/
def webBeginsWrong : ChangeSpec := { name := "webBegins", fn := fun _ => fun
  | [d1, d2, d3] => { results := [.lit (.bool false)], args := [d1, d2, d3] }
  | _ => none }
def WebBeginsWrongFalsely : Prop := webBeginsRow.holds Try.pinned (OpenSpec.ofChange webBeginsWrong)

/- THE SECOND FORM. 'bulk': how many values and letters a reading holds, each counted each time it is reached (what is shared counts as often as it is met; a slice's spare places count too). A statement '..UptoSaid' is the law's where the arguments, and the package variables that the reading takes, are together of bulk at most 1048576: NARROWER than '..Said'. Prove '..Said' where nothing that the law and all that it calls make is longer than what came in: it says more and counts as full. Else prove '..UptoSaid'. A law counts once. -/
mutual
def uptoBulk {H : Type} : DataW H → Nat
  | .lit (.string bytes) => bytes.length + 1
  | .lit _ => 1
  | .nil => 1
  | .ptr d => uptoBulk d + 1
  | .slice elems spare => uptoBulkAll elems + uptoBulkAll spare + 1
  | .agg parts => uptoBulkAll parts + 1
  | .iface _ d => uptoBulk d + 1
  | .map entries => uptoBulkEntries entries + 1
  | .held _ => 1
def uptoBulkAll {H : Type} : List (DataW H) → Nat
  | [] => 0
  | d :: r => uptoBulk d + uptoBulkAll r
def uptoBulkEntries {H : Type} : List (Lit × DataW H) → Nat
  | [] => 0
  | x :: r => uptoBulkEntry x + uptoBulkEntries r
def uptoBulkEntry {H : Type} : Lit × DataW H → Nat
  | (.string bytes, d) => bytes.length + uptoBulk d + 1
  | (_, d) => uptoBulk d + 1
 end
def uptoSmall : (H : Type) → List (DataW H) → Bool := fun _ ds => decide (uptoBulkAll ds ≤ 1048576)
def OpenSpec.upto (s : _root_.Go.ChangeSpec) : _root_.Go.OpenSpec := { _root_.Go.OpenSpec.ofChange s with cond := some uptoSmall }

/-- 'papermilllaw28.WebChecks', WHERE WHAT IT READS IS OF BULK AT MOST 1048576: true; the input reads as it did. -/
def webChecksUptoRow : OpenClaim := { program := "ytfdblofpfpmbhaa", sum := "ebb58a6bb8da884dcf6607e2a023e67c9a04a5a82460569225f1acdfb93e782d", func := "papermill/papermilllaw28.WebChecks", spec := "webChecks", unfollowed := true, recurses := true, apart := false, narrowed := true }
def WebChecksUptoSaid : Prop := webChecksUptoRow.holds Try.pinned (OpenSpec.upto webChecksSpec)

/-- 'papermilllaw28.WebRuns', WHERE WHAT IT READS IS OF BULK AT MOST 1048576: true; the input reads as it did. -/
def webRunsUptoRow : OpenClaim := { program := "ytfdblofpfpmbhaa", sum := "ebb58a6bb8da884dcf6607e2a023e67c9a04a5a82460569225f1acdfb93e782d", func := "papermill/papermilllaw28.WebRuns", spec := "webRuns", unfollowed := true, recurses := true, apart := false, narrowed := true }
def WebRunsUptoSaid : Prop := webRunsUptoRow.holds Try.pinned (OpenSpec.upto webRunsSpec)

/-- 'papermilllaw28.WebBounds', WHERE WHAT IT READS IS OF BULK AT MOST 1048576: true; the input reads as it did. -/
def webBoundsUptoRow : OpenClaim := { program := "ytfdblofpfpmbhaa", sum := "ebb58a6bb8da884dcf6607e2a023e67c9a04a5a82460569225f1acdfb93e782d", func := "papermill/papermilllaw28.WebBounds", spec := "webBounds", unfollowed := true, recurses := true, apart := false, narrowed := true }
def WebBoundsUptoSaid : Prop := webBoundsUptoRow.holds Try.pinned (OpenSpec.upto webBoundsSpec)

/-- 'papermilllaw28.WebLimits', WHERE WHAT IT READS IS OF BULK AT MOST 1048576: true; the input reads as it did. -/
def webLimitsUptoRow : OpenClaim := { program := "ytfdblofpfpmbhaa", sum := "ebb58a6bb8da884dcf6607e2a023e67c9a04a5a82460569225f1acdfb93e782d", func := "papermill/papermilllaw28.WebLimits", spec := "webLimits", unfollowed := true, recurses := true, apart := false, narrowed := true }
def WebLimitsUptoSaid : Prop := webLimitsUptoRow.holds Try.pinned (OpenSpec.upto webLimitsSpec)

/-- 'papermilllaw28.WebCoupled', WHERE WHAT IT READS IS OF BULK AT MOST 1048576: true; the input reads as it did. -/
def webCoupledUptoRow : OpenClaim := { program := "ytfdblofpfpmbhaa", sum := "ebb58a6bb8da884dcf6607e2a023e67c9a04a5a82460569225f1acdfb93e782d", func := "papermill/papermilllaw28.WebCoupled", spec := "webCoupled", unfollowed := true, recurses := true, apart := false, narrowed := true }
def WebCoupledUptoSaid : Prop := webCoupledUptoRow.holds Try.pinned (OpenSpec.upto webCoupledSpec)

/-- 'papermilllaw28.WebRests', WHERE WHAT IT READS IS OF BULK AT MOST 1048576: true; the input reads as it did. -/
def webRestsUptoRow : OpenClaim := { program := "ytfdblofpfpmbhaa", sum := "ebb58a6bb8da884dcf6607e2a023e67c9a04a5a82460569225f1acdfb93e782d", func := "papermill/papermilllaw28.WebRests", spec := "webRests", unfollowed := true, recurses := true, apart := false, narrowed := true }
def WebRestsUptoSaid : Prop := webRestsUptoRow.holds Try.pinned (OpenSpec.upto webRestsSpec)

/-- 'papermilllaw28.WebBegins', WHERE WHAT IT READS IS OF BULK AT MOST 1048576: true; the input reads as it did. -/
def webBeginsUptoRow : OpenClaim := { program := "ytfdblofpfpmbhaa", sum := "ebb58a6bb8da884dcf6607e2a023e67c9a04a5a82460569225f1acdfb93e782d", func := "papermill/papermilllaw28.WebBegins", spec := "webBegins", unfollowed := true, recurses := true, apart := false, narrowed := true }
def WebBeginsUptoSaid : Prop := webBeginsUptoRow.holds Try.pinned (OpenSpec.upto webBeginsSpec)

end Rows
end Go.Proofs.Ytfdblofpfpmbhaa
