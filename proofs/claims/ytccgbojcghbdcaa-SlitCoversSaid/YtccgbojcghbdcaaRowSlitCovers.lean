/- The row of the law SlitCovers: for every input it returns true, and its arguments read behind the call as before it. No condition. -/
import Derived.Test.YtccgbojcghbdcaaRows
import Derived.Test.YtccgbojcghbdcaaOpen
import Derived.Test.YtccgbojcghbdcaaSLCovers
import Derived.WalkKit
import Derived.ProofKit
import Derived.OpenShut
import Derived.ShutString
import Derived.ChangeOld
import Derived.Below
import Derived.SizedLaws
namespace Go.Proofs.Ytccgbojcghbdcaa
open Go.ChangeShapes Go.WideShapes Go.ChangeAt Go.RowKit
open Go.ChangeMaps (open_string shut_string)
set_option linter.unusedVariables false
namespace RowSlitCovers
theorem own : ownKnob Try.prog.godebug = none := by kernel_rfl
theorem laidOut : laidOutB Try.prog = true := by kernel_rfl
set_option maxRecDepth 100000 in
set_option maxHeartbeats 1000000 in
theorem lifted (os : Os) (started : os.Started) (H : Type) (enc : TypeId × Value → H) :
    ReturnsInHanded {} Try.checked os 7 .any (Rows.slitCoversSpec.pre6 enc Try.prog Try.f7 Rows.slitCoversRow.domain false) (Rows.slitCoversSpec.post enc Try.prog Try.f7 false true false false) := by
  refine returnsInHanded_of_change_sized (C := Try.checked) own started (by kernel_rfl) Try.func7
    (ChangeSpec.witness6 (enc := enc) (C := Try.checked) false ⟨#[], #[.agg #[.int .i64 0, .int .i64 0, .slice none 0 0, .int .i64 0, .int .i64 0], .agg #[.int .i64 0, .int .i64 0, .int .i64 0]], []⟩ 8 (by kernel_rfl) (by kernel_rfl) (by kernel_rfl) (by kernel_rfl)) ?_
  intro W base args ds gs before hval0 hW hcnd hsz0 _
  have hval : ∀ (j : Nat) t v, Try.f7.params[j]? = some t → args[j]? = some v → Value.okWide Try.prog W .any base t v := hval0
  have hW' := hW
  obtain ⟨p, q, hA0, hV, rfl, hfz, hnd⟩ := hW
  have hA : DataW.TrodAll enc Try.prog W 0 (fun _ => true) true Try.f7.params.toList args.toList ds p := hA0
  rw [Try.params7] at hA hval
  obtain ⟨v0, vs0, d0, ds0, p0, q0, hargs, rfl, rfl, r0, s0⟩ := trodAll_cons hA
  obtain ⟨v1, vs1, d1, ds1, p1, q1, rfl, rfl, rfl, r1, s1⟩ := trodAll_cons s0
  obtain ⟨rfl, rfl, rfl⟩ := trodAll_nil s1
  obtain rfl : args = #[v0, v1] := by cases args; simp_all
  obtain ⟨rfl, rfl⟩ := trodVars_none hV
  have k0 := r0
  have lt0 : ∀ x ∈ p0, x.block < W.heap.size := by obtain ⟨m, hm⟩ := k0; exact DataW.trod_lt m _ _ _ hm
  obtain ⟨cs0, rfl, sz0, lf0⟩ := open_agg (ls := [3, 3, 22, 3, 3]) (f := 20) (.inl ⟨_, Try.underlying36⟩) (by kernel_rfl) (by kernel_rfl) (hval 0 36 v0 rfl rfl) r0
  obtain ⟨x0, e0, h0⟩ := leaf_int lf0 0 3 .i64 rfl Try.underlying3
  obtain ⟨x1, e1, h1⟩ := leaf_int lf0 1 3 .i64 rfl Try.underlying3
  obtain ⟨a2, len2, c2, e2, y2⟩ := leaf_slice lf0 2 22 57 rfl Try.underlying22
  obtain ⟨dd2, pp2, y2⟩ := y2
  obtain ⟨x2, el2, i2, h2, g2a, g2b, g2c⟩ := open_nums (ls := [3, 3]) (f := 20) Try.underlying22 (by kernel_rfl) (by kernel_rfl) (by decide) (by intro t ht; simp at ht; first | (subst ht; exact Try.underlying3) | (rcases ht with rfl | rfl <;> first | exact Try.underlying3)) y2
  subst el2
  obtain ⟨x3, e3, h3⟩ := leaf_int lf0 3 3 .i64 rfl Try.underlying3
  obtain ⟨x4, e4, h4⟩ := leaf_int lf0 4 3 .i64 rfl Try.underlying3
  obtain rfl : cs0 = #[.int .i64 x0, .int .i64 x1, .slice a2 x2.length c2, .int .i64 x3, .int .i64 x4] := agg_eq sz0 (fun i hi => by
    match i, hi with
    | 0, _ => exact e0
    | 1, _ => exact e1
    | 2, _ => exact e2
    | 3, _ => exact e3
    | 4, _ => exact e4
    | _ + 5, hi => exact absurd hi (by simp))
  have k1 := r1
  have lt1 : ∀ x ∈ p1, x.block < W.heap.size := by obtain ⟨m, hm⟩ := k1; exact DataW.trod_lt m _ _ _ hm
  obtain ⟨cs1, rfl, sz1, lf1⟩ := open_agg (ls := [3, 3, 3]) (f := 20) (.inl ⟨_, Try.underlying55⟩) (by kernel_rfl) (by kernel_rfl) (hval 1 55 v1 rfl rfl) r1
  obtain ⟨x5, e5, h5⟩ := leaf_int lf1 0 3 .i64 rfl Try.underlying3
  obtain ⟨x6, e6, h6⟩ := leaf_int lf1 1 3 .i64 rfl Try.underlying3
  obtain ⟨x7, e7, h7⟩ := leaf_int lf1 2 3 .i64 rfl Try.underlying3
  obtain rfl : cs1 = #[.int .i64 x5, .int .i64 x6, .int .i64 x7] := agg_eq sz1 (fun i hi => by
    match i, hi with
    | 0, _ => exact e5
    | 1, _ => exact e6
    | 2, _ => exact e7
    | _ + 3, hi => exact absurd hi (by simp))
  clear hA0 hval0 hsz0
  refine (slitCovers_walk x0 x1 a2 c2 x2 x3 x4 x5 x6 x7 W h0 h1 h2 ⟨g2a, g2b, g2c⟩ i2 h3 h4 h5 h6 h7).mono fun e W' ⟨he, bel⟩ => ?_
  subst he
  exact ⟨_, rfl, _, _, _, [], _, [], hW', trodAll_mk1 (shut_bool Try.underlying4 _), (trodAll_cons_mk (Below.trod laidOut (by kernel_rfl) (of_decide_eq_true (by kernel_rfl)) k0 bel lt0) (trodAll_cons_mk (Below.trod laidOut (by kernel_rfl) (of_decide_eq_true (by kernel_rfl)) k1 bel lt1) trodAll_mk0)), rfl, bel.frame _, fun h => by cases h⟩
theorem over : Rows.slitCoversRow.holds Try.pinned (OpenSpec.ofChange Rows.slitCoversSpec) :=
  OpenClaim.holds_of_wide 7 Try.f7 rfl rfl rfl rfl rfl rfl rfl ⟨rfl, rfl, rfl, rfl, rfl⟩ rfl rfl rfl rfl rfl (by kernel_rfl) Try.func7 (by kernel_rfl)
    (of_decide_eq_true (by kernel_rfl)) (by unfold Func.isWrapper; first | (rw [if_pos (by decide +kernel)]; kernel_rfl) | (rw [if_neg (by decide +kernel)]; exact ⟨rfl, rfl⟩))
    (fun os started H enc _ => lifted os started H enc)
end RowSlitCovers
/-- SlitCovers: for every input the law returns true. -/
theorem slitCovers_holds : Rows.SlitCoversSaid := RowSlitCovers.over
#print axioms slitCovers_holds
end Go.Proofs.Ytccgbojcghbdcaa
