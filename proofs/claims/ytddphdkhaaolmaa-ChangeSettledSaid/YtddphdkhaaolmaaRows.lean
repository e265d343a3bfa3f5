/-
  No cell of these rows narrows 'for every input' (looked for: loops, veiled, ifaces, maps, wideKeys, modest, calm, conditions, laid).
  DERIVED. THE GIVEN ROWS OF THIS SEAT. 7 by the template 'for every input the law returns true; each argument reads behind the call as it read before'; 0 by the template 'total and deterministic' (their statements: YtddphdkhaaolmaaTotals.lean).
  GIVEN WITH THE SEED: the statements are not yours to turn. If you find one false, say at which input.
  Laid BY PROGRAM, IN A SANDBOX (cutbox-rows.mjs): the forced cells as the released guide's own fill.sh prints them over the translation 2f91afa469bb0323… (all of the seat's roots in one cut). By AI agents, Wed Nov 11 2026. No macro, syntax, notation, axiom, sorry.
-/
import Derived.Test.YtddphdkhaaolmaaChecked
import GoSem.Claim
import GoSem.ClaimJoined
import GoSem.ClaimMapViews
import Derived.JoinedTies
import Derived.KernelRfl
namespace Go.Proofs.Ytddphdkhaaolmaa
/- THE CELL 'sum', in the pinned program and in every row, IS THE sha256 OF THE DUMP (.gsa) THAT YtddphdkhaaolmaaProg.lean LOADS. Nothing in Lean hashes anything: it is a label: what it is worth is what the hold of that sum in a sandbox is worth. -/
noncomputable def Try.pinned : Pinned := { name := "ytddphdkhaaolmaa", sum := "2f91afa469bb0323e199a5473758767b51220b3b20959c3aa0e8e7699d2ebd70", checked := Try.checked }
namespace Rows
def none {H : Type} : Left H := { results := [], args := [] }

/-- 'papermilllaw32.ChangePaths': WHATEVER THE INPUT: true; the input reads as it did. -/
def changePathsSpec : ChangeSpec := { name := "changePaths", fn := fun _ => fun
  | [d1, d2, d3] => { results := [.lit (.bool true)], args := [d1, d2, d3] }
  | _ => none }
def changePathsRow : OpenClaim := { program := "ytddphdkhaaolmaa", sum := "2f91afa469bb0323e199a5473758767b51220b3b20959c3aa0e8e7699d2ebd70", func := "papermill/papermilllaw32.ChangePaths", spec := "changePaths", unfollowed := true, recurses := true, apart := false }
def ChangePathsSaid : Prop := changePathsRow.holds Try.pinned (OpenSpec.ofChange changePathsSpec)

/-- ITS FALSE NEIGHBOUR: 'it returns false'. Refute it at one input. -/
def changePathsWrong : ChangeSpec := { name := "changePaths", fn := fun _ => fun
  | [d1, d2, d3] => { results := [.lit (.bool false)], args := [d1, d2, d3] }
  | _ => none }
def ChangePathsWrongFalsely : Prop := changePathsRow.holds Try.pinned (OpenSpec.ofChange changePathsWrong)

/-- 'papermilllaw32.ChangeSteps': WHATEVER THE INPUT: true; the input reads as it did. -/
def changeStepsSpec : ChangeSpec := { name := "changeSteps", fn := fun _ => fun
  | [d1, d2] => { results := [.lit (.bool true)], args := [d1, d2] }
  | _ => none }
def changeStepsRow : OpenClaim := { program := "ytddphdkhaaolmaa", sum := "2f91afa469bb0323e199a5473758767b51220b3b20959c3aa0e8e7699d2ebd70", func := "papermill/papermilllaw32.ChangeSteps", spec := "changeSteps", unfollowed := true, recurses := true, apart := false }
def ChangeStepsSaid : Prop := changeStepsRow.holds Try.pinned (OpenSpec.ofChange changeStepsSpec)

/-- ITS FALSE NEIGHBOUR: 'it returns false'. Refute it at one input. -/
def changeStepsWrong : ChangeSpec := { name := "changeSteps", fn := fun _ => fun
  | [d1, d2] => { results := [.lit (.bool false)], args := [d1, d2] }
  | _ => none }
def ChangeStepsWrongFalsely : Prop := changeStepsRow.holds Try.pinned (OpenSpec.ofChange changeStepsWrong)

/-- 'papermilllaw32.ChangePapers': WHATEVER THE INPUT: true; the input reads as it did. -/
def changePapersSpec : ChangeSpec := { name := "changePapers", fn := fun _ => fun
  | [d1, d2, d3] => { results := [.lit (.bool true)], args := [d1, d2, d3] }
  | _ => none }
def changePapersRow : OpenClaim := { program := "ytddphdkhaaolmaa", sum := "2f91afa469bb0323e199a5473758767b51220b3b20959c3aa0e8e7699d2ebd70", func := "papermill/papermilllaw32.ChangePapers", spec := "changePapers", unfollowed := true, recurses := true, apart := false }
def ChangePapersSaid : Prop := changePapersRow.holds Try.pinned (OpenSpec.ofChange changePapersSpec)

/-- ITS FALSE NEIGHBOUR: 'it returns false'. Refute it at one input. -/
def changePapersWrong : ChangeSpec := { name := "changePapers", fn := fun _ => fun
  | [d1, d2, d3] => { results := [.lit (.bool false)], args := [d1, d2, d3] }
  | _ => none }
def ChangePapersWrongFalsely : Prop := changePapersRow.holds Try.pinned (OpenSpec.ofChange changePapersWrong)

/-- 'papermilllaw32.ChangeSettled': WHATEVER THE INPUT: true; the input reads as it did. -/
def changeSettledSpec : ChangeSpec := { name := "changeSettled", fn := fun _ => fun
  | [d1, d2] => { results := [.lit (.bool true)], args := [d1, d2] }
  | _ => none }
def changeSettledRow : OpenClaim := { program := "ytddphdkhaaolmaa", sum := "2f91afa469bb0323e199a5473758767b51220b3b20959c3aa0e8e7699d2ebd70", func := "papermill/papermilllaw32.ChangeSettled", spec := "changeSettled", unfollowed := true, recurses := true, apart := false }
def ChangeSettledSaid : Prop := changeSettledRow.holds Try.pinned (OpenSpec.ofChange changeSettledSpec)

/-- ITS FALSE NEIGHBOUR: 'it returns false'. Refute it at one input. -/
def changeSettledWrong : ChangeSpec := { name := "changeSettled", fn := fun _ => fun
  | [d1, d2] => { results := [.lit (.bool false)], args := [d1, d2] }
  | _ => none }
def ChangeSettledWrongFalsely : Prop := changeSettledRow.holds Try.pinned (OpenSpec.ofChange changeSettledWrong)

/-- 'papermilllaw32.ChangeRules': WHATEVER THE INPUT: true; the input reads as it did. -/
def changeRulesSpec : ChangeSpec := { name := "changeRules", fn := fun _ => fun
  | [d1, d2, d3] => { results := [.lit (.bool true)], args := [d1, d2, d3] }
  | _ => none }
def changeRulesRow : OpenClaim := { program := "ytddphdkhaaolmaa", sum := "2f91afa469bb0323e199a5473758767b51220b3b20959c3aa0e8e7699d2ebd70", func := "papermill/papermilllaw32.ChangeRules", spec := "changeRules", unfollowed := true, recurses := true, apart := false }
def ChangeRulesSaid : Prop := changeRulesRow.holds Try.pinned (OpenSpec.ofChange changeRulesSpec)

/-- ITS FALSE NEIGHBOUR: 'it returns false'. Refute it at one input. -/
def changeRulesWrong : ChangeSpec := { name := "changeRules", fn := fun _ => fun
  | [d1, d2, d3] => { results := [.lit (.bool false)], args := [d1, d2, d3] }
  | _ => none }
def ChangeRulesWrongFalsely : Prop := changeRulesRow.holds Try.pinned (OpenSpec.ofChange changeRulesWrong)

/-- 'papermilllaw32.ChangeNone': WHATEVER THE INPUT: true; the input reads as it did. -/
def changeNoneSpec : ChangeSpec := { name := "changeNone", fn := fun _ => fun
  | [d1, d2] => { results := [.lit (.bool true)], args := [d1, d2] }
  | _ => none }
def changeNoneRow : OpenClaim := { program := "ytddphdkhaaolmaa", sum := "2f91afa469bb0323e199a5473758767b51220b3b20959c3aa0e8e7699d2ebd70", func := "papermill/papermilllaw32.ChangeNone", spec := "changeNone", unfollowed := true, recurses := true, apart := false }
def ChangeNoneSaid : Prop := changeNoneRow.holds Try.pinned (OpenSpec.ofChange changeNoneSpec)

/-- ITS FALSE NEIGHBOUR: 'it returns false'. Refute it at one input. -/
def changeNoneWrong : ChangeSpec := { name := "changeNone", fn := fun _ => fun
  | [d1, d2] => { results := [.lit (.bool false)], args := [d1, d2] }
  | _ => none }
def ChangeNoneWrongFalsely : Prop := changeNoneRow.holds Try.pinned (OpenSpec.ofChange changeNoneWrong)

/-- 'papermilllaw32.ChangeBegins': WHATEVER THE INPUT: true; the input reads as it did. -/
def changeBeginsSpec : ChangeSpec := { name := "changeBegins", fn := fun _ => fun
  | [d1, d2, d3] => { results := [.lit (.bool true)], args := [d1, d2, d3] }
  | _ => none }
def changeBeginsRow : OpenClaim := { program := "ytddphdkhaaolmaa", sum := "2f91afa469bb0323e199a5473758767b51220b3b20959c3aa0e8e7699d2ebd70", func := "papermill/papermilllaw32.ChangeBegins", spec := "changeBegins", unfollowed := true, recurses := true, apart := false }
def ChangeBeginsSaid : Prop := changeBeginsRow.holds Try.pinned (OpenSpec.ofChange changeBeginsSpec)

/-- ITS FALSE NEIGHBOUR: 'it returns false'. Refute it at one input. -/
def changeBeginsWrong : ChangeSpec := { name := "changeBegins", fn := fun _ => fun
  | [d1, d2, d3] => { results := [.lit (.bool false)], args := [d1, d2, d3] }
  | _ => none }
def ChangeBeginsWrongFalsely : Prop := changeBeginsRow.holds Try.pinned (OpenSpec.ofChange changeBeginsWrong)

/- THE SECOND FORM. 'bulk': how many values and letters a reading holds, each counted each time it is reached (what is shared counts as often as it is met; a slice's spare places count too). A statement '..UptoSaid' is the law's where the arguments, and the package variables that the reading takes, are together of bulk at most 1048576: NARROWER than '..Said'. Prove '..Said' where nothing that the law and all that it calls make is longer than what came in: it says more and counts as full. Else prove '..UptoSaid'. A law counts once. -/
mutual
def uptoBulk {H : Type} : DataW H → Nat
  | .lit (.string bytes) => bytes.length + 1
  | .lit _ => 1
  | .nil => 1
  | .ptr d => uptoBulk d + 1
  | .slice elems spare => uptoBulkAll elems + uptoBulkAll spare + 1
  | .agg parts => uptoBulkAll parts + 1
  | .iface _ d => uptoBulk d + 1
  | .map entries => uptoBulkEntries entries + 1
  | .held _ => 1
def uptoBulkAll {H : Type} : List (DataW H) → Nat
  | [] => 0
  | d :: r => uptoBulk d + uptoBulkAll r
def uptoBulkEntries {H : Type} : List (Lit × DataW H) → Nat
  | [] => 0
  | x :: r => uptoBulkEntry x + uptoBulkEntries r
def uptoBulkEntry {H : Type} : Lit × DataW H → Nat
  | (.string bytes, d) => bytes.length + uptoBulk d + 1
  | (_, d) => uptoBulk d + 1
 end
def uptoSmall : (H : Type) → List (DataW H) → Bool := fun _ ds => decide (uptoBulkAll ds ≤ 1048576)
def OpenSpec.upto (s : _root_.Go.ChangeSpec) : _root_.Go.OpenSpec := { _root_.Go.OpenSpec.ofChange s with cond := some uptoSmall }

/-- 'papermilllaw32.ChangePaths', WHERE WHAT IT READS IS OF BULK AT MOST 1048576: true; the input reads as it did. -/
def changePathsUptoRow : OpenClaim := { program := "ytddphdkhaaolmaa", sum := "2f91afa469bb0323e199a5473758767b51220b3b20959c3aa0e8e7699d2ebd70", func := "papermill/papermilllaw32.ChangePaths", spec := "changePaths", unfollowed := true, recurses := true, apart := false, narrowed := true }
def ChangePathsUptoSaid : Prop := changePathsUptoRow.holds Try.pinned (OpenSpec.upto changePathsSpec)

/-- 'papermilllaw32.ChangeSteps', WHERE WHAT IT READS IS OF BULK AT MOST 1048576: true; the input reads as it did. -/
def changeStepsUptoRow : OpenClaim := { program := "ytddphdkhaaolmaa", sum := "2f91afa469bb0323e199a5473758767b51220b3b20959c3aa0e8e7699d2ebd70", func := "papermill/papermilllaw32.ChangeSteps", spec := "changeSteps", unfollowed := true, recurses := true, apart := false, narrowed := true }
def ChangeStepsUptoSaid : Prop := changeStepsUptoRow.holds Try.pinned (OpenSpec.upto changeStepsSpec)

/-- 'papermilllaw32.ChangePapers', WHERE WHAT IT READS IS OF BULK AT MOST 1048576: true; the input reads as it did. -/
def changePapersUptoRow : OpenClaim := { program := "ytddphdkhaaolmaa", sum := "2f91afa469bb0323e199a5473758767b51220b3b20959c3aa0e8e7699d2ebd70", func := "papermill/papermilllaw32.ChangePapers", spec := "changePapers", unfollowed := true, recurses := true, apart := false, narrowed := true }
def ChangePapersUptoSaid : Prop := changePapersUptoRow.holds Try.pinned (OpenSpec.upto changePapersSpec)

/-- 'papermilllaw32.ChangeSettled', WHERE WHAT IT READS IS OF BULK AT MOST 1048576: true; the input reads as it did. -/
def changeSettledUptoRow : OpenClaim := { program := "ytddphdkhaaolmaa", sum := "2f91afa469bb0323e199a5473758767b51220b3b20959c3aa0e8e7699d2ebd70", func := "papermill/papermilllaw32.ChangeSettled", spec := "changeSettled", unfollowed := true, recurses := true, apart := false, narrowed := true }
def ChangeSettledUptoSaid : Prop := changeSettledUptoRow.holds Try.pinned (OpenSpec.upto changeSettledSpec)

/-- 'papermilllaw32.ChangeRules', WHERE WHAT IT READS IS OF BULK AT MOST 1048576: true; the input reads as it did. -/
def changeRulesUptoRow : OpenClaim := { program := "ytddphdkhaaolmaa", sum := "2f91afa469bb0323e199a5473758767b51220b3b20959c3aa0e8e7699d2ebd70", func := "papermill/papermilllaw32.ChangeRules", spec := "changeRules", unfollowed := true, recurses := true, apart := false, narrowed := true }
def ChangeRulesUptoSaid : Prop := changeRulesUptoRow.holds Try.pinned (OpenSpec.upto changeRulesSpec)

/-- 'papermilllaw32.ChangeNone', WHERE WHAT IT READS IS OF BULK AT MOST 1048576: true; the input reads as it did. -/
def changeNoneUptoRow : OpenClaim := { program := "ytddphdkhaaolmaa", sum := "2f91afa469bb0323e199a5473758767b51220b3b20959c3aa0e8e7699d2ebd70", func := "papermill/papermilllaw32.ChangeNone", spec := "changeNone", unfollowed := true, recurses := true, apart := false, narrowed := true }
def ChangeNoneUptoSaid : Prop := changeNoneUptoRow.holds Try.pinned (OpenSpec.upto changeNoneSpec)

/-- 'papermilllaw32.ChangeBegins', WHERE WHAT IT READS IS OF BULK AT MOST 1048576: true; the input reads as it did. -/
def changeBeginsUptoRow : OpenClaim := { program := "ytddphdkhaaolmaa", sum := "2f91afa469bb0323e199a5473758767b51220b3b20959c3aa0e8e7699d2ebd70", func := "papermill/papermilllaw32.ChangeBegins", spec := "changeBegins", unfollowed := true, recurses := true, apart := false, narrowed := true }
def ChangeBeginsUptoSaid : Prop := changeBeginsUptoRow.holds Try.pinned (OpenSpec.upto changeBeginsSpec)

end Rows
end Go.Proofs.Ytddphdkhaaolmaa
