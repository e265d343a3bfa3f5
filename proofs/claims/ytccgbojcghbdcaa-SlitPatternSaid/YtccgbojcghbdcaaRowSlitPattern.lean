/- The row of the law SlitPattern: for every input it returns true, and its arguments read behind the call as before it. No condition. -/
import Derived.Test.YtccgbojcghbdcaaRows
import Derived.Test.YtccgbojcghbdcaaOpen
import Derived.Test.YtccgbojcghbdcaaSLPattern
import Derived.WalkKit
import Derived.ProofKit
import Derived.OpenShut
import Derived.ShutString
import Derived.ChangeOld
import Derived.Below
import Derived.SizedLaws
namespace Go.Proofs.Ytccgbojcghbdcaa
open Go.ChangeShapes Go.WideShapes Go.ChangeAt Go.RowKit
open Go.ChangeMaps (open_string shut_string)
set_option linter.unusedVariables false
namespace RowSlitPattern
theorem own : ownKnob Try.prog.godebug = none := by kernel_rfl
theorem laidOut : laidOutB Try.prog = true := by kernel_rfl
set_option maxRecDepth 100000 in
set_option maxHeartbeats 1000000 in
theorem lifted (os : Os) (started : os.Started) (H : Type) (enc : TypeId × Value → H) :
    ReturnsInHanded {} Try.checked os 10 .any (Rows.slitPatternSpec.pre6 enc Try.prog Try.f10 Rows.slitPatternRow.domain false) (Rows.slitPatternSpec.post enc Try.prog Try.f10 false true false false) := by
  refine returnsInHanded_of_change_sized (C := Try.checked) own started (by kernel_rfl) Try.func10
    (ChangeSpec.witness6 (enc := enc) (C := Try.checked) false ⟨#[], #[.agg #[.int .i64 0, .int .i64 0, .int .i64 0, .int .i64 0, .slice none 0 0], .slice none 0 0], []⟩ 8 (by kernel_rfl) (by kernel_rfl) (by kernel_rfl) (by kernel_rfl)) ?_
  intro W base args ds gs before hval0 hW hcnd hsz0 _
  have hval : ∀ (j : Nat) t v, Try.f10.params[j]? = some t → args[j]? = some v → Value.okWide Try.prog W .any base t v := hval0
  have hW' := hW
  obtain ⟨p, q, hA0, hV, rfl, hfz, hnd⟩ := hW
  have hA : DataW.TrodAll enc Try.prog W 0 (fun _ => true) true Try.f10.params.toList args.toList ds p := hA0
  rw [Try.params10] at hA hval
  obtain ⟨v0, vs0, d0, ds0, p0, q0, hargs, rfl, rfl, r0, s0⟩ := trodAll_cons hA
  obtain ⟨v1, vs1, d1, ds1, p1, q1, rfl, rfl, rfl, r1, s1⟩ := trodAll_cons s0
  obtain ⟨rfl, rfl, rfl⟩ := trodAll_nil s1
  obtain rfl : args = #[v0, v1] := by cases args; simp_all
  obtain ⟨rfl, rfl⟩ := trodVars_none hV
  have k0 := r0
  have lt0 : ∀ x ∈ p0, x.block < W.heap.size := by obtain ⟨m, hm⟩ := k0; exact DataW.trod_lt m _ _ _ hm
  obtain ⟨cs0, rfl, sz0, lf0⟩ := open_agg (ls := [3, 3, 3, 3, 30]) (f := 20) (.inl ⟨_, Try.underlying32⟩) (by kernel_rfl) (by kernel_rfl) (hval 0 32 v0 rfl rfl) r0
  obtain ⟨x0, e0, h0⟩ := leaf_int lf0 0 3 .i64 rfl Try.underlying3
  obtain ⟨x1, e1, h1⟩ := leaf_int lf0 1 3 .i64 rfl Try.underlying3
  obtain ⟨x2, e2, h2⟩ := leaf_int lf0 2 3 .i64 rfl Try.underlying3
  obtain ⟨x3, e3, h3⟩ := leaf_int lf0 3 3 .i64 rfl Try.underlying3
  obtain ⟨a4, len4, c4, e4, y4⟩ := leaf_slice lf0 4 30 3 rfl Try.underlying30
  obtain ⟨dd4, pp4, y4⟩ := y4
  obtain ⟨x4, el4, i4, h4, g4a, g4b, g4c⟩ := open_list Try.underlying30 Try.underlying3 (by kernel_rfl) y4
  subst el4
  obtain rfl : cs0 = #[.int .i64 x0, .int .i64 x1, .int .i64 x2, .int .i64 x3, .slice a4 x4.length c4] := agg_eq sz0 (fun i hi => by
    match i, hi with
    | 0, _ => exact e0
    | 1, _ => exact e1
    | 2, _ => exact e2
    | 3, _ => exact e3
    | 4, _ => exact e4
    | _ + 5, hi => exact absurd hi (by simp))
  have k1 := r1
  have lt1 : ∀ x ∈ p1, x.block < W.heap.size := by obtain ⟨m, hm⟩ := k1; exact DataW.trod_lt m _ _ _ hm
  obtain ⟨a5, len5, c5, rfl⟩ := okWide_slice Try.underlying30 (hval 1 30 v1 rfl rfl)
  obtain ⟨x5, el5, i5, h5, g5a, g5b, g5c⟩ := open_list Try.underlying30 Try.underlying3 (by kernel_rfl) r1
  subst el5
  clear hA0 hval0 hsz0
  refine (slitPattern_walk x0 x1 x2 x3 a4 c4 x4 a5 c5 x5 W h0 h1 h2 h3 h4 ⟨g4a, g4b, g4c⟩ i4 h5 ⟨g5a, g5b, g5c⟩ i5).mono fun e W' ⟨he, bel⟩ => ?_
  subst he
  exact ⟨_, rfl, _, _, _, [], _, [], hW', trodAll_mk1 (shut_bool Try.underlying4 _), (trodAll_cons_mk (Below.trod laidOut (by kernel_rfl) (of_decide_eq_true (by kernel_rfl)) k0 bel lt0) (trodAll_cons_mk (Below.trod laidOut (by kernel_rfl) (of_decide_eq_true (by kernel_rfl)) k1 bel lt1) trodAll_mk0)), rfl, bel.frame _, fun h => by cases h⟩
theorem over : Rows.slitPatternRow.holds Try.pinned (OpenSpec.ofChange Rows.slitPatternSpec) :=
  OpenClaim.holds_of_wide 10 Try.f10 rfl rfl rfl rfl rfl rfl rfl ⟨rfl, rfl, rfl, rfl, rfl⟩ rfl rfl rfl rfl rfl (by kernel_rfl) Try.func10 (by kernel_rfl)
    (of_decide_eq_true (by kernel_rfl)) (by unfold Func.isWrapper; first | (rw [if_pos (by decide +kernel)]; kernel_rfl) | (rw [if_neg (by decide +kernel)]; exact ⟨rfl, rfl⟩))
    (fun os started H enc _ => lifted os started H enc)
end RowSlitPattern
/-- SlitPattern: for every input the law returns true. -/
theorem slitPattern_holds : Rows.SlitPatternSaid := RowSlitPattern.over
#print axioms slitPattern_holds
end Go.Proofs.Ytccgbojcghbdcaa
