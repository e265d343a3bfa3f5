/- The row of the law SlitOnce: for every input it returns true, and its arguments read behind the call as before it. No condition. -/
import Derived.Test.YtccgbojcghbdcaaRows
import Derived.Test.YtccgbojcghbdcaaOpen
import Derived.Test.YtccgbojcghbdcaaSLOnce
import Derived.WalkKit
import Derived.ProofKit
import Derived.OpenShut
import Derived.ShutString
import Derived.ChangeOld
import Derived.Below
import Derived.SizedLaws
namespace Go.Proofs.Ytccgbojcghbdcaa
open Go.ChangeShapes Go.WideShapes Go.ChangeAt Go.RowKit
open Go.ChangeMaps (open_string shut_string)
set_option linter.unusedVariables false
namespace RowSlitOnce
theorem own : ownKnob Try.prog.godebug = none := by kernel_rfl
theorem laidOut : laidOutB Try.prog = true := by kernel_rfl
set_option maxRecDepth 100000 in
set_option maxHeartbeats 1000000 in
theorem lifted (os : Os) (started : os.Started) (H : Type) (enc : TypeId × Value → H) :
    ReturnsInHanded {} Try.checked os 8 .any (Rows.slitOnceSpec.pre6 enc Try.prog Try.f8 Rows.slitOnceRow.domain false) (Rows.slitOnceSpec.post enc Try.prog Try.f8 false true false false) := by
  refine returnsInHanded_of_change_sized (C := Try.checked) own started (by kernel_rfl) Try.func8
    (ChangeSpec.witness6 (enc := enc) (C := Try.checked) false ⟨#[], #[.agg #[.int .i64 0, .int .i64 0, .slice none 0 0, .int .i64 0, .int .i64 0], .agg #[.int .i64 0, .int .i64 0, .slice none 0 0, .int .i64 0, .int .i64 0], .agg #[.int .i64 0, .int .i64 0]], []⟩ 8 (by kernel_rfl) (by kernel_rfl) (by kernel_rfl) (by kernel_rfl)) ?_
  intro W base args ds gs before hval0 hW hcnd hsz0 _
  have hval : ∀ (j : Nat) t v, Try.f8.params[j]? = some t → args[j]? = some v → Value.okWide Try.prog W .any base t v := hval0
  have hW' := hW
  obtain ⟨p, q, hA0, hV, rfl, hfz, hnd⟩ := hW
  have hA : DataW.TrodAll enc Try.prog W 0 (fun _ => true) true Try.f8.params.toList args.toList ds p := hA0
  rw [Try.params8] at hA hval
  obtain ⟨v0, vs0, d0, ds0, p0, q0, hargs, rfl, rfl, r0, s0⟩ := trodAll_cons hA
  obtain ⟨v1, vs1, d1, ds1, p1, q1, rfl, rfl, rfl, r1, s1⟩ := trodAll_cons s0
  obtain ⟨v2, vs2, d2, ds2, p2, q2, rfl, rfl, rfl, r2, s2⟩ := trodAll_cons s1
  obtain ⟨rfl, rfl, rfl⟩ := trodAll_nil s2
  obtain rfl : args = #[v0, v1, v2] := by cases args; simp_all
  obtain ⟨rfl, rfl⟩ := trodVars_none hV
  have k0 := r0
  have lt0 : ∀ x ∈ p0, x.block < W.heap.size := by obtain ⟨m, hm⟩ := k0; exact DataW.trod_lt m _ _ _ hm
  obtain ⟨cs0, rfl, sz0, lf0⟩ := open_agg (ls := [3, 3, 22, 3, 3]) (f := 20) (.inl ⟨_, Try.underlying36⟩) (by kernel_rfl) (by kernel_rfl) (hval 0 36 v0 rfl rfl) r0
  obtain ⟨x0, e0, h0⟩ := leaf_int lf0 0 3 .i64 rfl Try.underlying3
  obtain ⟨x1, e1, h1⟩ := leaf_int lf0 1 3 .i64 rfl Try.underlying3
  obtain ⟨a2, len2, c2, e2, y2⟩ := leaf_slice lf0 2 22 57 rfl Try.underlying22
  obtain ⟨dd2, pp2, y2⟩ := y2
  obtain ⟨x2, el2, i2, h2, g2a, g2b, g2c⟩ := open_nums (ls := [3, 3]) (f := 20) Try.underlying22 (by kernel_rfl) (by kernel_rfl) (by decide) (by intro t ht; simp at ht; first | (subst ht; exact Try.underlying3) | (rcases ht with rfl | rfl <;> first | exact Try.underlying3)) y2
  subst el2
  obtain ⟨x3, e3, h3⟩ := leaf_int lf0 3 3 .i64 rfl Try.underlying3
  obtain ⟨x4, e4, h4⟩ := leaf_int lf0 4 3 .i64 rfl Try.underlying3
  obtain rfl : cs0 = #[.int .i64 x0, .int .i64 x1, .slice a2 x2.length c2, .int .i64 x3, .int .i64 x4] := agg_eq sz0 (fun i hi => by
    match i, hi with
    | 0, _ => exact e0
    | 1, _ => exact e1
    | 2, _ => exact e2
    | 3, _ => exact e3
    | 4, _ => exact e4
    | _ + 5, hi => exact absurd hi (by simp))
  have k1 := r1
  have lt1 : ∀ x ∈ p1, x.block < W.heap.size := by obtain ⟨m, hm⟩ := k1; exact DataW.trod_lt m _ _ _ hm
  obtain ⟨cs1, rfl, sz1, lf1⟩ := open_agg (ls := [3, 3, 22, 3, 3]) (f := 20) (.inl ⟨_, Try.underlying36⟩) (by kernel_rfl) (by kernel_rfl) (hval 1 36 v1 rfl rfl) r1
  obtain ⟨x5, e5, h5⟩ := leaf_int lf1 0 3 .i64 rfl Try.underlying3
  obtain ⟨x6, e6, h6⟩ := leaf_int lf1 1 3 .i64 rfl Try.underlying3
  obtain ⟨a7, len7, c7, e7, y7⟩ := leaf_slice lf1 2 22 57 rfl Try.underlying22
  obtain ⟨dd7, pp7, y7⟩ := y7
  obtain ⟨x7, el7, i7, h7, g7a, g7b, g7c⟩ := open_nums (ls := [3, 3]) (f := 20) Try.underlying22 (by kernel_rfl) (by kernel_rfl) (by decide) (by intro t ht; simp at ht; first | (subst ht; exact Try.underlying3) | (rcases ht with rfl | rfl <;> first | exact Try.underlying3)) y7
  subst el7
  obtain ⟨x8, e8, h8⟩ := leaf_int lf1 3 3 .i64 rfl Try.underlying3
  obtain ⟨x9, e9, h9⟩ := leaf_int lf1 4 3 .i64 rfl Try.underlying3
  obtain rfl : cs1 = #[.int .i64 x5, .int .i64 x6, .slice a7 x7.length c7, .int .i64 x8, .int .i64 x9] := agg_eq sz1 (fun i hi => by
    match i, hi with
    | 0, _ => exact e5
    | 1, _ => exact e6
    | 2, _ => exact e7
    | 3, _ => exact e8
    | 4, _ => exact e9
    | _ + 5, hi => exact absurd hi (by simp))
  have k2 := r2
  have lt2 : ∀ x ∈ p2, x.block < W.heap.size := by obtain ⟨m, hm⟩ := k2; exact DataW.trod_lt m _ _ _ hm
  obtain ⟨cs2, rfl, sz2, lf2⟩ := open_agg (ls := [3, 3]) (f := 20) (.inr ⟨_, _, Try.underlying60⟩) (by kernel_rfl) (by kernel_rfl) (hval 2 60 v2 rfl rfl) r2
  obtain ⟨x10, e10, h10⟩ := leaf_int lf2 0 3 .i64 rfl Try.underlying3
  obtain ⟨x11, e11, h11⟩ := leaf_int lf2 1 3 .i64 rfl Try.underlying3
  obtain rfl : cs2 = #[.int .i64 x10, .int .i64 x11] := agg_eq sz2 (fun i hi => by
    match i, hi with
    | 0, _ => exact e10
    | 1, _ => exact e11
    | _ + 2, hi => exact absurd hi (by simp))
  clear hA0 hval0 hsz0
  refine (slitOnce_walk x0 x1 a2 c2 x2 x3 x4 x5 x6 a7 c7 x7 x8 x9 x10 x11 W h0 h1 h2 ⟨g2a, g2b, g2c⟩ i2 h3 h4 h5 h6 h7 ⟨g7a, g7b, g7c⟩ i7 h8 h9 h10 h11).mono fun e W' ⟨he, bel⟩ => ?_
  subst he
  exact ⟨_, rfl, _, _, _, [], _, [], hW', trodAll_mk1 (shut_bool Try.underlying4 _), (trodAll_cons_mk (Below.trod laidOut (by kernel_rfl) (of_decide_eq_true (by kernel_rfl)) k0 bel lt0) (trodAll_cons_mk (Below.trod laidOut (by kernel_rfl) (of_decide_eq_true (by kernel_rfl)) k1 bel lt1) (trodAll_cons_mk (Below.trod laidOut (by kernel_rfl) (of_decide_eq_true (by kernel_rfl)) k2 bel lt2) trodAll_mk0))), rfl, bel.frame _, fun h => by cases h⟩
theorem over : Rows.slitOnceRow.holds Try.pinned (OpenSpec.ofChange Rows.slitOnceSpec) :=
  OpenClaim.holds_of_wide 8 Try.f8 rfl rfl rfl rfl rfl rfl rfl ⟨rfl, rfl, rfl, rfl, rfl⟩ rfl rfl rfl rfl rfl (by kernel_rfl) Try.func8 (by kernel_rfl)
    (of_decide_eq_true (by kernel_rfl)) (by unfold Func.isWrapper; first | (rw [if_pos (by decide +kernel)]; kernel_rfl) | (rw [if_neg (by decide +kernel)]; exact ⟨rfl, rfl⟩))
    (fun os started H enc _ => lifted os started H enc)
end RowSlitOnce
/-- SlitOnce: for every input the law returns true. -/
theorem slitOnce_holds : Rows.SlitOnceSaid := RowSlitOnce.over
#print axioms slitOnce_holds
end Go.Proofs.Ytccgbojcghbdcaa
