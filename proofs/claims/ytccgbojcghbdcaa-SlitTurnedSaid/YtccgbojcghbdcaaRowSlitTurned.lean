/- The row of the law SlitTurned: for every input it returns true, and its arguments read behind the call as before it. No condition. -/
import Derived.Test.YtccgbojcghbdcaaRows
import Derived.Test.YtccgbojcghbdcaaOpen
import Derived.Test.YtccgbojcghbdcaaSLTurned
import Derived.WalkKit
import Derived.ProofKit
import Derived.OpenShut
import Derived.ShutString
import Derived.ChangeOld
import Derived.Below
import Derived.SizedLaws
namespace Go.Proofs.Ytccgbojcghbdcaa
open Go.ChangeShapes Go.WideShapes Go.ChangeAt Go.RowKit
open Go.ChangeMaps (open_string shut_string)
set_option linter.unusedVariables false
namespace RowSlitTurned
theorem own : ownKnob Try.prog.godebug = none := by kernel_rfl
theorem laidOut : laidOutB Try.prog = true := by kernel_rfl
set_option maxRecDepth 100000 in
set_option maxHeartbeats 1000000 in
theorem lifted (os : Os) (started : os.Started) (H : Type) (enc : TypeId × Value → H) :
    ReturnsInHanded {} Try.checked os 9 .any (Rows.slitTurnedSpec.pre6 enc Try.prog Try.f9 Rows.slitTurnedRow.domain false) (Rows.slitTurnedSpec.post enc Try.prog Try.f9 false true false false) := by
  refine returnsInHanded_of_change_sized (C := Try.checked) own started (by kernel_rfl) Try.func9
    (ChangeSpec.witness6 (enc := enc) (C := Try.checked) false ⟨#[], #[.agg #[.int .i64 0, .int .i64 0, .bool false, .slice none 0 0], .int .i64 0, .int .i64 0], []⟩ 8 (by kernel_rfl) (by kernel_rfl) (by kernel_rfl) (by kernel_rfl)) ?_
  intro W base args ds gs before hval0 hW hcnd hsz0 _
  have hval : ∀ (j : Nat) t v, Try.f9.params[j]? = some t → args[j]? = some v → Value.okWide Try.prog W .any base t v := hval0
  have hW' := hW
  obtain ⟨p, q, hA0, hV, rfl, hfz, hnd⟩ := hW
  have hA : DataW.TrodAll enc Try.prog W 0 (fun _ => true) true Try.f9.params.toList args.toList ds p := hA0
  rw [Try.params9] at hA hval
  obtain ⟨v0, vs0, d0, ds0, p0, q0, hargs, rfl, rfl, r0, s0⟩ := trodAll_cons hA
  obtain ⟨v1, vs1, d1, ds1, p1, q1, rfl, rfl, rfl, r1, s1⟩ := trodAll_cons s0
  obtain ⟨v2, vs2, d2, ds2, p2, q2, rfl, rfl, rfl, r2, s2⟩ := trodAll_cons s1
  obtain ⟨rfl, rfl, rfl⟩ := trodAll_nil s2
  obtain rfl : args = #[v0, v1, v2] := by cases args; simp_all
  obtain ⟨rfl, rfl⟩ := trodVars_none hV
  have k0 := r0
  have lt0 : ∀ x ∈ p0, x.block < W.heap.size := by obtain ⟨m, hm⟩ := k0; exact DataW.trod_lt m _ _ _ hm
  obtain ⟨cs0, rfl, sz0, lf0⟩ := open_agg (ls := [3, 3, 4, 45]) (f := 20) (.inl ⟨_, Try.underlying47⟩) (by kernel_rfl) (by kernel_rfl) (hval 0 47 v0 rfl rfl) r0
  obtain ⟨x0, e0, h0⟩ := leaf_int lf0 0 3 .i64 rfl Try.underlying3
  obtain ⟨x1, e1, h1⟩ := leaf_int lf0 1 3 .i64 rfl Try.underlying3
  obtain ⟨x2, e2⟩ := leaf_bool lf0 2 4 rfl Try.underlying4
  obtain ⟨a3, len3, c3, e3, y3⟩ := leaf_slice lf0 3 45 69 rfl Try.underlying45
  obtain ⟨dd3, pp3, y3⟩ := y3
  obtain ⟨x3, el3, i3, h3, g3a, g3b, g3c⟩ := open_runs (f := 20) Try.underlying45 (by kernel_rfl) (by kernel_rfl) Try.underlying3 Try.underlying3 Try.underlying4 y3
  subst el3
  obtain rfl : cs0 = #[.int .i64 x0, .int .i64 x1, .bool x2, .slice a3 x3.length c3] := agg_eq sz0 (fun i hi => by
    match i, hi with
    | 0, _ => exact e0
    | 1, _ => exact e1
    | 2, _ => exact e2
    | 3, _ => exact e3
    | _ + 4, hi => exact absurd hi (by simp))
  have k1 := r1
  have lt1 : ∀ x ∈ p1, x.block < W.heap.size := by obtain ⟨m, hm⟩ := k1; exact DataW.trod_lt m _ _ _ hm
  obtain ⟨x4, rfl, _, _, h4⟩ := open_int Try.underlying3 (hval 1 3 v1 rfl rfl) r1
  have k2 := r2
  have lt2 : ∀ x ∈ p2, x.block < W.heap.size := by obtain ⟨m, hm⟩ := k2; exact DataW.trod_lt m _ _ _ hm
  obtain ⟨x5, rfl, _, _, h5⟩ := open_int Try.underlying3 (hval 2 3 v2 rfl rfl) r2
  clear hA0 hval0 hsz0
  refine (slitTurned_walk x0 x1 x2 a3 c3 x3 x4 x5 W h0 h1 h3 ⟨g3a, g3b, g3c⟩ i3 h4 h5).mono fun e W' ⟨he, bel⟩ => ?_
  subst he
  exact ⟨_, rfl, _, _, _, [], _, [], hW', trodAll_mk1 (shut_bool Try.underlying4 _), (trodAll_cons_mk (Below.trod laidOut (by kernel_rfl) (of_decide_eq_true (by kernel_rfl)) k0 bel lt0) (trodAll_cons_mk (Below.trod laidOut (by kernel_rfl) (of_decide_eq_true (by kernel_rfl)) k1 bel lt1) (trodAll_cons_mk (Below.trod laidOut (by kernel_rfl) (of_decide_eq_true (by kernel_rfl)) k2 bel lt2) trodAll_mk0))), rfl, bel.frame _, fun h => by cases h⟩
theorem over : Rows.slitTurnedRow.holds Try.pinned (OpenSpec.ofChange Rows.slitTurnedSpec) :=
  OpenClaim.holds_of_wide 9 Try.f9 rfl rfl rfl rfl rfl rfl rfl ⟨rfl, rfl, rfl, rfl, rfl⟩ rfl rfl rfl rfl rfl (by kernel_rfl) Try.func9 (by kernel_rfl)
    (of_decide_eq_true (by kernel_rfl)) (by unfold Func.isWrapper; first | (rw [if_pos (by decide +kernel)]; kernel_rfl) | (rw [if_neg (by decide +kernel)]; exact ⟨rfl, rfl⟩))
    (fun os started H enc _ => lifted os started H enc)
end RowSlitTurned
/-- SlitTurned: for every input the law returns true. -/
theorem slitTurned_holds : Rows.SlitTurnedSaid := RowSlitTurned.over
#print axioms slitTurned_holds
end Go.Proofs.Ytccgbojcghbdcaa
