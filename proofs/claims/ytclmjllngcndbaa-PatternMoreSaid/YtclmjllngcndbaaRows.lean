/-
  No cell of these rows narrows 'for every input' (looked for: loops, veiled, ifaces, maps, wideKeys, modest, calm, conditions, laid).
  DERIVED. THE GIVEN ROWS OF THIS SEAT. 7 by the template 'for every input the law returns true; each argument reads behind the call as it read before'; 0 by the template 'total and deterministic' (their statements: YtclmjllngcndbaaTotals.lean).
  GIVEN WITH THE SEED: the statements are not yours to turn. If you find one false, say at which input.
  Laid BY PROGRAM, IN A SANDBOX (cutbox-rows.mjs): the forced cells as the released guide's own fill.sh prints them over the translation 5a4ce867c4061814… (all of the seat's roots in one cut). By AI agents, Wed Nov 11 2026. No macro, syntax, notation, axiom, sorry.
-/
import Derived.Test.YtclmjllngcndbaaChecked
import GoSem.Claim
import GoSem.ClaimJoined
import GoSem.ClaimMapViews
import Derived.JoinedTies
import Derived.KernelRfl
namespace Go.Proofs.Ytclmjllngcndbaa
/- THE CELL 'sum', in the pinned program and in every row, IS THE sha256 OF THE DUMP (.gsa) THAT YtclmjllngcndbaaProg.lean LOADS. Nothing in Lean hashes anything: it is a label: what it is worth is what the hold of that sum in a sandbox is worth. -/
noncomputable def Try.pinned : Pinned := { name := "ytclmjllngcndbaa", sum := "5a4ce867c406181453c5ff835f0984a64226c125ce5b9c58595795850521343e", checked := Try.checked }
namespace Rows
def none {H : Type} : Left H := { results := [], args := [] }

/-- 'papermilllaw38.PatternChecks': WHATEVER THE INPUT: true; the input reads as it did. -/
def patternChecksSpec : ChangeSpec := { name := "patternChecks", fn := fun _ => fun
  | [d] => { results := [.lit (.bool true)], args := [d] }
  | _ => none }
def patternChecksRow : OpenClaim := { program := "ytclmjllngcndbaa", sum := "5a4ce867c406181453c5ff835f0984a64226c125ce5b9c58595795850521343e", func := "papermill/papermilllaw38.PatternChecks", spec := "patternChecks", unfollowed := true, recurses := true, apart := false }
def PatternChecksSaid : Prop := patternChecksRow.holds Try.pinned (OpenSpec.ofChange patternChecksSpec)

/-- ITS FALSE NEIGHBOUR: 'it returns false'. Refute it at one input. -/
def patternChecksWrong : ChangeSpec := { name := "patternChecks", fn := fun _ => fun
  | [d] => { results := [.lit (.bool false)], args := [d] }
  | _ => none }
def PatternChecksWrongFalsely : Prop := patternChecksRow.holds Try.pinned (OpenSpec.ofChange patternChecksWrong)

/-- 'papermilllaw38.PatternFits': WHATEVER THE INPUT: true; the input reads as it did. -/
def patternFitsSpec : ChangeSpec := { name := "patternFits", fn := fun _ => fun
  | [d1, d2] => { results := [.lit (.bool true)], args := [d1, d2] }
  | _ => none }
def patternFitsRow : OpenClaim := { program := "ytclmjllngcndbaa", sum := "5a4ce867c406181453c5ff835f0984a64226c125ce5b9c58595795850521343e", func := "papermill/papermilllaw38.PatternFits", spec := "patternFits", unfollowed := true, recurses := true, apart := false }
def PatternFitsSaid : Prop := patternFitsRow.holds Try.pinned (OpenSpec.ofChange patternFitsSpec)

/-- ITS FALSE NEIGHBOUR: 'it returns false'. Refute it at one input. -/
def patternFitsWrong : ChangeSpec := { name := "patternFits", fn := fun _ => fun
  | [d1, d2] => { results := [.lit (.bool false)], args := [d1, d2] }
  | _ => none }
def PatternFitsWrongFalsely : Prop := patternFitsRow.holds Try.pinned (OpenSpec.ofChange patternFitsWrong)

/-- 'papermilllaw38.PatternLists': WHATEVER THE INPUT: true; the input reads as it did. -/
def patternListsSpec : ChangeSpec := { name := "patternLists", fn := fun _ => fun
  | [d] => { results := [.lit (.bool true)], args := [d] }
  | _ => none }
def patternListsRow : OpenClaim := { program := "ytclmjllngcndbaa", sum := "5a4ce867c406181453c5ff835f0984a64226c125ce5b9c58595795850521343e", func := "papermill/papermilllaw38.PatternLists", spec := "patternLists", unfollowed := true, recurses := true, apart := false }
def PatternListsSaid : Prop := patternListsRow.holds Try.pinned (OpenSpec.ofChange patternListsSpec)

/-- ITS FALSE NEIGHBOUR: 'it returns false'. Refute it at one input. -/
def patternListsWrong : ChangeSpec := { name := "patternLists", fn := fun _ => fun
  | [d] => { results := [.lit (.bool false)], args := [d] }
  | _ => none }
def PatternListsWrongFalsely : Prop := patternListsRow.holds Try.pinned (OpenSpec.ofChange patternListsWrong)

/-- 'papermilllaw38.PatternIndexes': WHATEVER THE INPUT: true; the input reads as it did. -/
def patternIndexesSpec : ChangeSpec := { name := "patternIndexes", fn := fun _ => fun
  | [d1, d2] => { results := [.lit (.bool true)], args := [d1, d2] }
  | _ => none }
def patternIndexesRow : OpenClaim := { program := "ytclmjllngcndbaa", sum := "5a4ce867c406181453c5ff835f0984a64226c125ce5b9c58595795850521343e", func := "papermill/papermilllaw38.PatternIndexes", spec := "patternIndexes", unfollowed := true, recurses := true, apart := false }
def PatternIndexesSaid : Prop := patternIndexesRow.holds Try.pinned (OpenSpec.ofChange patternIndexesSpec)

/-- ITS FALSE NEIGHBOUR: 'it returns false'. Refute it at one input. -/
def patternIndexesWrong : ChangeSpec := { name := "patternIndexes", fn := fun _ => fun
  | [d1, d2] => { results := [.lit (.bool false)], args := [d1, d2] }
  | _ => none }
def PatternIndexesWrongFalsely : Prop := patternIndexesRow.holds Try.pinned (OpenSpec.ofChange patternIndexesWrong)

/-- 'papermilllaw38.PatternMaximals': WHATEVER THE INPUT: true; the input reads as it did. -/
def patternMaximalsSpec : ChangeSpec := { name := "patternMaximals", fn := fun _ => fun
  | [d1, d2] => { results := [.lit (.bool true)], args := [d1, d2] }
  | _ => none }
def patternMaximalsRow : OpenClaim := { program := "ytclmjllngcndbaa", sum := "5a4ce867c406181453c5ff835f0984a64226c125ce5b9c58595795850521343e", func := "papermill/papermilllaw38.PatternMaximals", spec := "patternMaximals", unfollowed := true, recurses := true, apart := false }
def PatternMaximalsSaid : Prop := patternMaximalsRow.holds Try.pinned (OpenSpec.ofChange patternMaximalsSpec)

/-- ITS FALSE NEIGHBOUR: 'it returns false'. Refute it at one input. -/
def patternMaximalsWrong : ChangeSpec := { name := "patternMaximals", fn := fun _ => fun
  | [d1, d2] => { results := [.lit (.bool false)], args := [d1, d2] }
  | _ => none }
def PatternMaximalsWrongFalsely : Prop := patternMaximalsRow.holds Try.pinned (OpenSpec.ofChange patternMaximalsWrong)

/-- 'papermilllaw38.PatternAll': WHATEVER THE INPUT: true; the input reads as it did. -/
def patternAllSpec : ChangeSpec := { name := "patternAll", fn := fun _ => fun
  | [d1, d2, d3] => { results := [.lit (.bool true)], args := [d1, d2, d3] }
  | _ => none }
def patternAllRow : OpenClaim := { program := "ytclmjllngcndbaa", sum := "5a4ce867c406181453c5ff835f0984a64226c125ce5b9c58595795850521343e", func := "papermill/papermilllaw38.PatternAll", spec := "patternAll", unfollowed := true, recurses := true, apart := false }
def PatternAllSaid : Prop := patternAllRow.holds Try.pinned (OpenSpec.ofChange patternAllSpec)

/-- ITS FALSE NEIGHBOUR: 'it returns false'. Refute it at one input. -/
def patternAllWrong : ChangeSpec := { name := "patternAll", fn := fun _ => fun
  | [d1, d2, d3] => { results := [.lit (.bool false)], args := [d1, d2, d3] }
  | _ => none }
def PatternAllWrongFalsely : Prop := patternAllRow.holds Try.pinned (OpenSpec.ofChange patternAllWrong)

/-- 'papermilllaw38.PatternMore': WHATEVER THE INPUT: true; the input reads as it did. -/
def patternMoreSpec : ChangeSpec := { name := "patternMore", fn := fun _ => fun
  | [d1, d2] => { results := [.lit (.bool true)], args := [d1, d2] }
  | _ => none }
def patternMoreRow : OpenClaim := { program := "ytclmjllngcndbaa", sum := "5a4ce867c406181453c5ff835f0984a64226c125ce5b9c58595795850521343e", func := "papermill/papermilllaw38.PatternMore", spec := "patternMore", unfollowed := true, recurses := true, apart := false }
def PatternMoreSaid : Prop := patternMoreRow.holds Try.pinned (OpenSpec.ofChange patternMoreSpec)

/-- ITS FALSE NEIGHBOUR: 'it returns false'. Refute it at one input. -/
def patternMoreWrong : ChangeSpec := { name := "patternMore", fn := fun _ => fun
  | [d1, d2] => { results := [.lit (.bool false)], args := [d1, d2] }
  | _ => none }
def PatternMoreWrongFalsely : Prop := patternMoreRow.holds Try.pinned (OpenSpec.ofChange patternMoreWrong)

/- THE SECOND FORM. 'bulk': how many values and letters a reading holds, each counted each time it is reached (what is shared counts as often as it is met; a slice's spare places count too). A statement '..UptoSaid' is the law's where the arguments, and the package variables that the reading takes, are together of bulk at most 1048576: NARROWER than '..Said'. Prove '..Said' where nothing that the law and all that it calls make is longer than what came in: it says more and counts as full. Else prove '..UptoSaid'. A law counts once. -/
mutual
def uptoBulk {H : Type} : DataW H → Nat
  | .lit (.string bytes) => bytes.length + 1
  | .lit _ => 1
  | .nil => 1
  | .ptr d => uptoBulk d + 1
  | .slice elems spare => uptoBulkAll elems + uptoBulkAll spare + 1
  | .agg parts => uptoBulkAll parts + 1
  | .iface _ d => uptoBulk d + 1
  | .map entries => uptoBulkEntries entries + 1
  | .held _ => 1
def uptoBulkAll {H : Type} : List (DataW H) → Nat
  | [] => 0
  | d :: r => uptoBulk d + uptoBulkAll r
def uptoBulkEntries {H : Type} : List (Lit × DataW H) → Nat
  | [] => 0
  | x :: r => uptoBulkEntry x + uptoBulkEntries r
def uptoBulkEntry {H : Type} : Lit × DataW H → Nat
  | (.string bytes, d) => bytes.length + uptoBulk d + 1
  | (_, d) => uptoBulk d + 1
 end
def uptoSmall : (H : Type) → List (DataW H) → Bool := fun _ ds => decide (uptoBulkAll ds ≤ 1048576)
def OpenSpec.upto (s : _root_.Go.ChangeSpec) : _root_.Go.OpenSpec := { _root_.Go.OpenSpec.ofChange s with cond := some uptoSmall }

/-- 'papermilllaw38.PatternChecks', WHERE WHAT IT READS IS OF BULK AT MOST 1048576: true; the input reads as it did. -/
def patternChecksUptoRow : OpenClaim := { program := "ytclmjllngcndbaa", sum := "5a4ce867c406181453c5ff835f0984a64226c125ce5b9c58595795850521343e", func := "papermill/papermilllaw38.PatternChecks", spec := "patternChecks", unfollowed := true, recurses := true, apart := false, narrowed := true }
def PatternChecksUptoSaid : Prop := patternChecksUptoRow.holds Try.pinned (OpenSpec.upto patternChecksSpec)

/-- 'papermilllaw38.PatternFits', WHERE WHAT IT READS IS OF BULK AT MOST 1048576: true; the input reads as it did. -/
def patternFitsUptoRow : OpenClaim := { program := "ytclmjllngcndbaa", sum := "5a4ce867c406181453c5ff835f0984a64226c125ce5b9c58595795850521343e", func := "papermill/papermilllaw38.PatternFits", spec := "patternFits", unfollowed := true, recurses := true, apart := false, narrowed := true }
def PatternFitsUptoSaid : Prop := patternFitsUptoRow.holds Try.pinned (OpenSpec.upto patternFitsSpec)

/-- 'papermilllaw38.PatternLists', WHERE WHAT IT READS IS OF BULK AT MOST 1048576: true; the input reads as it did. -/
def patternListsUptoRow : OpenClaim := { program := "ytclmjllngcndbaa", sum := "5a4ce867c406181453c5ff835f0984a64226c125ce5b9c58595795850521343e", func := "papermill/papermilllaw38.PatternLists", spec := "patternLists", unfollowed := true, recurses := true, apart := false, narrowed := true }
def PatternListsUptoSaid : Prop := patternListsUptoRow.holds Try.pinned (OpenSpec.upto patternListsSpec)

/-- 'papermilllaw38.PatternIndexes', WHERE WHAT IT READS IS OF BULK AT MOST 1048576: true; the input reads as it did. -/
def patternIndexesUptoRow : OpenClaim := { program := "ytclmjllngcndbaa", sum := "5a4ce867c406181453c5ff835f0984a64226c125ce5b9c58595795850521343e", func := "papermill/papermilllaw38.PatternIndexes", spec := "patternIndexes", unfollowed := true, recurses := true, apart := false, narrowed := true }
def PatternIndexesUptoSaid : Prop := patternIndexesUptoRow.holds Try.pinned (OpenSpec.upto patternIndexesSpec)

/-- 'papermilllaw38.PatternMaximals', WHERE WHAT IT READS IS OF BULK AT MOST 1048576: true; the input reads as it did. -/
def patternMaximalsUptoRow : OpenClaim := { program := "ytclmjllngcndbaa", sum := "5a4ce867c406181453c5ff835f0984a64226c125ce5b9c58595795850521343e", func := "papermill/papermilllaw38.PatternMaximals", spec := "patternMaximals", unfollowed := true, recurses := true, apart := false, narrowed := true }
def PatternMaximalsUptoSaid : Prop := patternMaximalsUptoRow.holds Try.pinned (OpenSpec.upto patternMaximalsSpec)

/-- 'papermilllaw38.PatternAll', WHERE WHAT IT READS IS OF BULK AT MOST 1048576: true; the input reads as it did. -/
def patternAllUptoRow : OpenClaim := { program := "ytclmjllngcndbaa", sum := "5a4ce867c406181453c5ff835f0984a64226c125ce5b9c58595795850521343e", func := "papermill/papermilllaw38.PatternAll", spec := "patternAll", unfollowed := true, recurses := true, apart := false, narrowed := true }
def PatternAllUptoSaid : Prop := patternAllUptoRow.holds Try.pinned (OpenSpec.upto patternAllSpec)

/-- 'papermilllaw38.PatternMore', WHERE WHAT IT READS IS OF BULK AT MOST 1048576: true; the input reads as it did. -/
def patternMoreUptoRow : OpenClaim := { program := "ytclmjllngcndbaa", sum := "5a4ce867c406181453c5ff835f0984a64226c125ce5b9c58595795850521343e", func := "papermill/papermilllaw38.PatternMore", spec := "patternMore", unfollowed := true, recurses := true, apart := false, narrowed := true }
def PatternMoreUptoSaid : Prop := patternMoreUptoRow.holds Try.pinned (OpenSpec.upto patternMoreSpec)

end Rows
end Go.Proofs.Ytclmjllngcndbaa
