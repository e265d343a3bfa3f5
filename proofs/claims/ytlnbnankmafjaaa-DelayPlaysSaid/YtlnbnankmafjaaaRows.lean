/-
  No cell of these rows narrows 'for every input' (looked for: loops, veiled, ifaces, maps, wideKeys, modest, calm, conditions, laid).
  DERIVED. THE GIVEN ROWS OF THIS SEAT. 6 by the template 'for every input the law returns true; each argument reads behind the call as it read before'; 0 by the template 'total and deterministic' (their statements: YtlnbnankmafjaaaTotals.lean).
  GIVEN WITH THE SEED: the statements are not yours to turn. If you find one false, say at which input.
  Laid BY PROGRAM, IN A SANDBOX (cutbox-rows.mjs): the forced cells as the released guide's own fill.sh prints them over the translation 70d573c079c0f9a6… (all of the seat's roots in one cut). By AI agents, Wed Nov 11 2026. No macro, syntax, notation, axiom, sorry.
-/
import Derived.Test.YtlnbnankmafjaaaChecked
import GoSem.Claim
import GoSem.ClaimJoined
import GoSem.ClaimMapViews
import Derived.JoinedTies
import Derived.KernelRfl
namespace Go.Proofs.Ytlnbnankmafjaaa
/- THE CELL 'sum', in the pinned program and in every row, IS THE sha256 OF THE DUMP (.gsa) THAT YtlnbnankmafjaaaProg.lean LOADS. Nothing in Lean hashes anything: it is a label: what it is worth is what the hold of that sum in a sandbox is worth. -/
noncomputable def Try.pinned : Pinned := { name := "ytlnbnankmafjaaa", sum := "70d573c079c0f9a61374ee65a5302f85b1b0b3a420cc6f51f0f5f255a98ebd32", checked := Try.checked }
namespace Rows
def none {H : Type} : Left H := { results := [], args := [] }

/-- 'papermilllaw24.DelayShifts': WHATEVER THE INPUT: true; the input reads as it did. -/
def delayShiftsSpec : ChangeSpec := { name := "delayShifts", fn := fun _ => fun
  | [d1, d2, d3] => { results := [.lit (.bool true)], args := [d1, d2, d3] }
  | _ => none }
def delayShiftsRow : OpenClaim := { program := "ytlnbnankmafjaaa", sum := "70d573c079c0f9a61374ee65a5302f85b1b0b3a420cc6f51f0f5f255a98ebd32", func := "papermill/papermilllaw24.DelayShifts", spec := "delayShifts", apart := false }
def DelayShiftsSaid : Prop := delayShiftsRow.holds Try.pinned (OpenSpec.ofChange delayShiftsSpec)

/-- ITS FALSE NEIGHBOUR: 'it returns false'. Refute it at one input. -/
def delayShiftsWrong : ChangeSpec := { name := "delayShifts", fn := fun _ => fun
  | [d1, d2, d3] => { results := [.lit (.bool false)], args := [d1, d2, d3] }
  | _ => none }
def DelayShiftsWrongFalsely : Prop := delayShiftsRow.holds Try.pinned (OpenSpec.ofChange delayShiftsWrong)

/-- 'papermilllaw24.DelayValues': WHATEVER THE INPUT: true; the input reads as it did. -/
def delayValuesSpec : ChangeSpec := { name := "delayValues", fn := fun _ => fun
  | [d1, d2, d3] => { results := [.lit (.bool true)], args := [d1, d2, d3] }
  | _ => none }
def delayValuesRow : OpenClaim := { program := "ytlnbnankmafjaaa", sum := "70d573c079c0f9a61374ee65a5302f85b1b0b3a420cc6f51f0f5f255a98ebd32", func := "papermill/papermilllaw24.DelayValues", spec := "delayValues", apart := false }
def DelayValuesSaid : Prop := delayValuesRow.holds Try.pinned (OpenSpec.ofChange delayValuesSpec)

/-- ITS FALSE NEIGHBOUR: 'it returns false'. Refute it at one input. -/
def delayValuesWrong : ChangeSpec := { name := "delayValues", fn := fun _ => fun
  | [d1, d2, d3] => { results := [.lit (.bool false)], args := [d1, d2, d3] }
  | _ => none }
def DelayValuesWrongFalsely : Prop := delayValuesRow.holds Try.pinned (OpenSpec.ofChange delayValuesWrong)

/-- 'papermilllaw24.DelayCopies': WHATEVER THE INPUT: true; the input reads as it did. -/
def delayCopiesSpec : ChangeSpec := { name := "delayCopies", fn := fun _ => fun
  | [d1, d2, d3, d4, d5] => { results := [.lit (.bool true)], args := [d1, d2, d3, d4, d5] }
  | _ => none }
def delayCopiesRow : OpenClaim := { program := "ytlnbnankmafjaaa", sum := "70d573c079c0f9a61374ee65a5302f85b1b0b3a420cc6f51f0f5f255a98ebd32", func := "papermill/papermilllaw24.DelayCopies", spec := "delayCopies", apart := false }
def DelayCopiesSaid : Prop := delayCopiesRow.holds Try.pinned (OpenSpec.ofChange delayCopiesSpec)

/-- ITS FALSE NEIGHBOUR: 'it returns false'. Refute it at one input. -/
def delayCopiesWrong : ChangeSpec := { name := "delayCopies", fn := fun _ => fun
  | [d1, d2, d3, d4, d5] => { results := [.lit (.bool false)], args := [d1, d2, d3, d4, d5] }
  | _ => none }
def DelayCopiesWrongFalsely : Prop := delayCopiesRow.holds Try.pinned (OpenSpec.ofChange delayCopiesWrong)

/-- 'papermilllaw24.DelayResets': WHATEVER THE INPUT: true; the input reads as it did. -/
def delayResetsSpec : ChangeSpec := { name := "delayResets", fn := fun _ => fun
  | [d1, d2, d3, d4, d5] => { results := [.lit (.bool true)], args := [d1, d2, d3, d4, d5] }
  | _ => none }
def delayResetsRow : OpenClaim := { program := "ytlnbnankmafjaaa", sum := "70d573c079c0f9a61374ee65a5302f85b1b0b3a420cc6f51f0f5f255a98ebd32", func := "papermill/papermilllaw24.DelayResets", spec := "delayResets", apart := false }
def DelayResetsSaid : Prop := delayResetsRow.holds Try.pinned (OpenSpec.ofChange delayResetsSpec)

/-- ITS FALSE NEIGHBOUR: 'it returns false'. Refute it at one input. -/
def delayResetsWrong : ChangeSpec := { name := "delayResets", fn := fun _ => fun
  | [d1, d2, d3, d4, d5] => { results := [.lit (.bool false)], args := [d1, d2, d3, d4, d5] }
  | _ => none }
def DelayResetsWrongFalsely : Prop := delayResetsRow.holds Try.pinned (OpenSpec.ofChange delayResetsWrong)

/-- 'papermilllaw24.DelayPlays': WHATEVER THE INPUT: true; the input reads as it did. -/
def delayPlaysSpec : ChangeSpec := { name := "delayPlays", fn := fun _ => fun
  | [d1, d2, d3] => { results := [.lit (.bool true)], args := [d1, d2, d3] }
  | _ => none }
def delayPlaysRow : OpenClaim := { program := "ytlnbnankmafjaaa", sum := "70d573c079c0f9a61374ee65a5302f85b1b0b3a420cc6f51f0f5f255a98ebd32", func := "papermill/papermilllaw24.DelayPlays", spec := "delayPlays", apart := false }
def DelayPlaysSaid : Prop := delayPlaysRow.holds Try.pinned (OpenSpec.ofChange delayPlaysSpec)

/-- ITS FALSE NEIGHBOUR: 'it returns false'. Refute it at one input. -/
def delayPlaysWrong : ChangeSpec := { name := "delayPlays", fn := fun _ => fun
  | [d1, d2, d3] => { results := [.lit (.bool false)], args := [d1, d2, d3] }
  | _ => none }
def DelayPlaysWrongFalsely : Prop := delayPlaysRow.holds Try.pinned (OpenSpec.ofChange delayPlaysWrong)

/-- 'papermilllaw24.DelayNil': WHATEVER THE INPUT: true; the input reads as it did. -/
def delayNilSpec : ChangeSpec := { name := "delayNil", fn := fun _ => fun
  | [d1, d2] => { results := [.lit (.bool true)], args := [d1, d2] }
  | _ => none }
def delayNilRow : OpenClaim := { program := "ytlnbnankmafjaaa", sum := "70d573c079c0f9a61374ee65a5302f85b1b0b3a420cc6f51f0f5f255a98ebd32", func := "papermill/papermilllaw24.DelayNil", spec := "delayNil", apart := false }
def DelayNilSaid : Prop := delayNilRow.holds Try.pinned (OpenSpec.ofChange delayNilSpec)

/-- ITS FALSE NEIGHBOUR: 'it returns false'. Refute it at one input. -/
def delayNilWrong : ChangeSpec := { name := "delayNil", fn := fun _ => fun
  | [d1, d2] => { results := [.lit (.bool false)], args := [d1, d2] }
  | _ => none }
def DelayNilWrongFalsely : Prop := delayNilRow.holds Try.pinned (OpenSpec.ofChange delayNilWrong)

/- THE SECOND FORM. 'bulk': how many values and letters a reading holds, each counted each time it is reached (what is shared counts as often as it is met; a slice's spare places count too). A statement '..UptoSaid' is the law's where the arguments, and the package variables that the reading takes, are together of bulk at most 1048576: NARROWER than '..Said'. Prove '..Said' where nothing that the law and all that it calls make is longer than what came in: it says more and counts as full. Else prove '..UptoSaid'. A law counts once. -/
mutual
def uptoBulk {H : Type} : DataW H → Nat
  | .lit (.string bytes) => bytes.length + 1
  | .lit _ => 1
  | .nil => 1
  | .ptr d => uptoBulk d + 1
  | .slice elems spare => uptoBulkAll elems + uptoBulkAll spare + 1
  | .agg parts => uptoBulkAll parts + 1
  | .iface _ d => uptoBulk d + 1
  | .map entries => uptoBulkEntries entries + 1
  | .held _ => 1
def uptoBulkAll {H : Type} : List (DataW H) → Nat
  | [] => 0
  | d :: r => uptoBulk d + uptoBulkAll r
def uptoBulkEntries {H : Type} : List (Lit × DataW H) → Nat
  | [] => 0
  | x :: r => uptoBulkEntry x + uptoBulkEntries r
def uptoBulkEntry {H : Type} : Lit × DataW H → Nat
  | (.string bytes, d) => bytes.length + uptoBulk d + 1
  | (_, d) => uptoBulk d + 1
 end
def uptoSmall : (H : Type) → List (DataW H) → Bool := fun _ ds => decide (uptoBulkAll ds ≤ 1048576)
def OpenSpec.upto (s : _root_.Go.ChangeSpec) : _root_.Go.OpenSpec := { _root_.Go.OpenSpec.ofChange s with cond := some uptoSmall }

/-- 'papermilllaw24.DelayShifts', WHERE WHAT IT READS IS OF BULK AT MOST 1048576: true; the input reads as it did. -/
def delayShiftsUptoRow : OpenClaim := { program := "ytlnbnankmafjaaa", sum := "70d573c079c0f9a61374ee65a5302f85b1b0b3a420cc6f51f0f5f255a98ebd32", func := "papermill/papermilllaw24.DelayShifts", spec := "delayShifts", apart := false, narrowed := true }
def DelayShiftsUptoSaid : Prop := delayShiftsUptoRow.holds Try.pinned (OpenSpec.upto delayShiftsSpec)

/-- 'papermilllaw24.DelayValues', WHERE WHAT IT READS IS OF BULK AT MOST 1048576: true; the input reads as it did. -/
def delayValuesUptoRow : OpenClaim := { program := "ytlnbnankmafjaaa", sum := "70d573c079c0f9a61374ee65a5302f85b1b0b3a420cc6f51f0f5f255a98ebd32", func := "papermill/papermilllaw24.DelayValues", spec := "delayValues", apart := false, narrowed := true }
def DelayValuesUptoSaid : Prop := delayValuesUptoRow.holds Try.pinned (OpenSpec.upto delayValuesSpec)

/-- 'papermilllaw24.DelayCopies', WHERE WHAT IT READS IS OF BULK AT MOST 1048576: true; the input reads as it did. -/
def delayCopiesUptoRow : OpenClaim := { program := "ytlnbnankmafjaaa", sum := "70d573c079c0f9a61374ee65a5302f85b1b0b3a420cc6f51f0f5f255a98ebd32", func := "papermill/papermilllaw24.DelayCopies", spec := "delayCopies", apart := false, narrowed := true }
def DelayCopiesUptoSaid : Prop := delayCopiesUptoRow.holds Try.pinned (OpenSpec.upto delayCopiesSpec)

/-- 'papermilllaw24.DelayResets', WHERE WHAT IT READS IS OF BULK AT MOST 1048576: true; the input reads as it did. -/
def delayResetsUptoRow : OpenClaim := { program := "ytlnbnankmafjaaa", sum := "70d573c079c0f9a61374ee65a5302f85b1b0b3a420cc6f51f0f5f255a98ebd32", func := "papermill/papermilllaw24.DelayResets", spec := "delayResets", apart := false, narrowed := true }
def DelayResetsUptoSaid : Prop := delayResetsUptoRow.holds Try.pinned (OpenSpec.upto delayResetsSpec)

/-- 'papermilllaw24.DelayPlays', WHERE WHAT IT READS IS OF BULK AT MOST 1048576: true; the input reads as it did. -/
def delayPlaysUptoRow : OpenClaim := { program := "ytlnbnankmafjaaa", sum := "70d573c079c0f9a61374ee65a5302f85b1b0b3a420cc6f51f0f5f255a98ebd32", func := "papermill/papermilllaw24.DelayPlays", spec := "delayPlays", apart := false, narrowed := true }
def DelayPlaysUptoSaid : Prop := delayPlaysUptoRow.holds Try.pinned (OpenSpec.upto delayPlaysSpec)

/-- 'papermilllaw24.DelayNil', WHERE WHAT IT READS IS OF BULK AT MOST 1048576: true; the input reads as it did. -/
def delayNilUptoRow : OpenClaim := { program := "ytlnbnankmafjaaa", sum := "70d573c079c0f9a61374ee65a5302f85b1b0b3a420cc6f51f0f5f255a98ebd32", func := "papermill/papermilllaw24.DelayNil", spec := "delayNil", apart := false, narrowed := true }
def DelayNilUptoSaid : Prop := delayNilUptoRow.holds Try.pinned (OpenSpec.upto delayNilSpec)

end Rows
end Go.Proofs.Ytlnbnankmafjaaa
