/- The row of the law ChangeSettled: for every input it returns true, and its arguments read behind the call as before it. No condition. -/
import Derived.Test.YtddphdkhaaolmaaRows
import Derived.Test.YtddphdkhaaolmaaOpen
import Derived.Test.YtddphdkhaaolmaaCSettled2
import Derived.WalkKit
import Derived.ProofKit
import Derived.OpenShut
import Derived.ShutString
import Derived.ChangeOld
import Derived.Below
import Derived.SizedLaws
namespace Go.Proofs.Ytddphdkhaaolmaa
open Go.ChangeShapes Go.WideShapes Go.ChangeAt Go.RowKit
open Go.ChangeMaps (open_string shut_string)
set_option linter.unusedVariables false
namespace RowChangeSettled
theorem own : ownKnob Try.prog.godebug = none := by kernel_rfl
theorem laidOut : laidOutB Try.prog = true := by kernel_rfl
set_option maxRecDepth 100000 in
set_option maxHeartbeats 1000000 in
theorem lifted (os : Os) (started : os.Started) (H : Type) (enc : TypeId × Value → H) :
    ReturnsInHanded {} Try.checked os 6 .any (Rows.changeSettledSpec.pre6 enc Try.prog Try.f6 Rows.changeSettledRow.domain false) (Rows.changeSettledSpec.post enc Try.prog Try.f6 false true false false) := by
  refine returnsInHanded_of_change_sized (C := Try.checked) own started (by kernel_rfl) Try.func6
    (ChangeSpec.witness6 (enc := enc) (C := Try.checked) false ⟨#[], #[.agg #[.int .i64 0, .int .i64 0, .int .i64 0, .int .i64 0, .int .i64 0, .int .i64 0, .int .i64 0, .int .i64 0, .int .i64 0, .int .i64 0, .int .i64 0, .int .i64 0, .int .i64 0, .int .i64 0, .int .i64 0, .int .i64 0, .int .i64 0, .int .i64 0, .int .i64 0], .agg #[.string ByteArray.empty, .int .i64 0, .int .i64 0, .int .i64 0, .int .i64 0, .int .i64 0, .slice none 0 0, .int .i64 0, .string ByteArray.empty, .int .i64 0, .int .i64 0, .int .i64 0, .int .i64 0, .int .i64 0, .slice none 0 0, .int .i64 0, .int .i64 0, .int .i64 0, .int .i64 0]], []⟩ 8 (by kernel_rfl) (by kernel_rfl) (by kernel_rfl) (by kernel_rfl)) ?_
  intro W base args ds gs before hval0 hW hcnd hsz0 _
  have hval : ∀ (j : Nat) t v, Try.f6.params[j]? = some t → args[j]? = some v → Value.okWide Try.prog W .any base t v := hval0
  have hW' := hW
  obtain ⟨p, q, hA0, hV, rfl, hfz, hnd⟩ := hW
  have hA : DataW.TrodAll enc Try.prog W 0 (fun _ => true) true Try.f6.params.toList args.toList ds p := hA0
  rw [Try.params6] at hA hval
  obtain ⟨v0, vs0, d0, ds0, p0, q0, hargs, rfl, rfl, r0, s0⟩ := trodAll_cons hA
  obtain ⟨v1, vs1, d1, ds1, p1, q1, rfl, rfl, rfl, r1, s1⟩ := trodAll_cons s0
  obtain ⟨rfl, rfl, rfl⟩ := trodAll_nil s1
  obtain rfl : args = #[v0, v1] := by cases args; simp_all
  obtain ⟨rfl, rfl⟩ := trodVars_none hV
  have k0 := r0
  have lt0 : ∀ x ∈ p0, x.block < W.heap.size := by obtain ⟨m, hm⟩ := k0; exact DataW.trod_lt m _ _ _ hm
  obtain ⟨cs0, rfl, sz0, lf0⟩ := open_agg (ls := [3, 3, 3, 3, 3, 3, 3, 3, 3, 3, 3, 3, 3, 3, 3, 3, 3, 3, 3]) (f := 20) (.inl ⟨_, Try.underlying29⟩) (by kernel_rfl) (by kernel_rfl) (hval 0 29 v0 rfl rfl) r0
  obtain ⟨x0, e0, h0⟩ := leaf_int lf0 0 3 .i64 rfl Try.underlying3
  obtain ⟨x1, e1, h1⟩ := leaf_int lf0 1 3 .i64 rfl Try.underlying3
  obtain ⟨x2, e2, h2⟩ := leaf_int lf0 2 3 .i64 rfl Try.underlying3
  obtain ⟨x3, e3, h3⟩ := leaf_int lf0 3 3 .i64 rfl Try.underlying3
  obtain ⟨x4, e4, h4⟩ := leaf_int lf0 4 3 .i64 rfl Try.underlying3
  obtain ⟨x5, e5, h5⟩ := leaf_int lf0 5 3 .i64 rfl Try.underlying3
  obtain ⟨x6, e6, h6⟩ := leaf_int lf0 6 3 .i64 rfl Try.underlying3
  obtain ⟨x7, e7, h7⟩ := leaf_int lf0 7 3 .i64 rfl Try.underlying3
  obtain ⟨x8, e8, h8⟩ := leaf_int lf0 8 3 .i64 rfl Try.underlying3
  obtain ⟨x9, e9, h9⟩ := leaf_int lf0 9 3 .i64 rfl Try.underlying3
  obtain ⟨x10, e10, h10⟩ := leaf_int lf0 10 3 .i64 rfl Try.underlying3
  obtain ⟨x11, e11, h11⟩ := leaf_int lf0 11 3 .i64 rfl Try.underlying3
  obtain ⟨x12, e12, h12⟩ := leaf_int lf0 12 3 .i64 rfl Try.underlying3
  obtain ⟨x13, e13, h13⟩ := leaf_int lf0 13 3 .i64 rfl Try.underlying3
  obtain ⟨x14, e14, h14⟩ := leaf_int lf0 14 3 .i64 rfl Try.underlying3
  obtain ⟨x15, e15, h15⟩ := leaf_int lf0 15 3 .i64 rfl Try.underlying3
  obtain ⟨x16, e16, h16⟩ := leaf_int lf0 16 3 .i64 rfl Try.underlying3
  obtain ⟨x17, e17, h17⟩ := leaf_int lf0 17 3 .i64 rfl Try.underlying3
  obtain ⟨x18, e18, h18⟩ := leaf_int lf0 18 3 .i64 rfl Try.underlying3
  obtain rfl : cs0 = #[.int .i64 x0, .int .i64 x1, .int .i64 x2, .int .i64 x3, .int .i64 x4, .int .i64 x5, .int .i64 x6, .int .i64 x7, .int .i64 x8, .int .i64 x9, .int .i64 x10, .int .i64 x11, .int .i64 x12, .int .i64 x13, .int .i64 x14, .int .i64 x15, .int .i64 x16, .int .i64 x17, .int .i64 x18] := agg_eq sz0 (fun i hi => by
    match i, hi with
    | 0, _ => exact e0
    | 1, _ => exact e1
    | 2, _ => exact e2
    | 3, _ => exact e3
    | 4, _ => exact e4
    | 5, _ => exact e5
    | 6, _ => exact e6
    | 7, _ => exact e7
    | 8, _ => exact e8
    | 9, _ => exact e9
    | 10, _ => exact e10
    | 11, _ => exact e11
    | 12, _ => exact e12
    | 13, _ => exact e13
    | 14, _ => exact e14
    | 15, _ => exact e15
    | 16, _ => exact e16
    | 17, _ => exact e17
    | 18, _ => exact e18
    | _ + 19, hi => exact absurd hi (by simp))
  have k1 := r1
  have lt1 : ∀ x ∈ p1, x.block < W.heap.size := by obtain ⟨m, hm⟩ := k1; exact DataW.trod_lt m _ _ _ hm
  obtain ⟨cs1, rfl, sz1, lf1⟩ := open_agg (ls := [9, 3, 3, 3, 3, 3, 30, 3, 9, 3, 3, 3, 3, 3, 30, 3, 3, 3, 3]) (f := 20) (.inl ⟨_, Try.underlying36⟩) (by kernel_rfl) (by kernel_rfl) (hval 1 36 v1 rfl rfl) r1
  obtain ⟨x19, e19, h19⟩ := leaf_string lf1 0 9 rfl Try.underlying9
  obtain ⟨x20, e20, h20⟩ := leaf_int lf1 1 3 .i64 rfl Try.underlying3
  obtain ⟨x21, e21, h21⟩ := leaf_int lf1 2 3 .i64 rfl Try.underlying3
  obtain ⟨x22, e22, h22⟩ := leaf_int lf1 3 3 .i64 rfl Try.underlying3
  obtain ⟨x23, e23, h23⟩ := leaf_int lf1 4 3 .i64 rfl Try.underlying3
  obtain ⟨x24, e24, h24⟩ := leaf_int lf1 5 3 .i64 rfl Try.underlying3
  obtain ⟨a25, len25, c25, e25, y25⟩ := leaf_slice lf1 6 30 3 rfl Try.underlying30
  obtain ⟨dd25, pp25, y25⟩ := y25
  obtain ⟨x25, el25, i25, h25, g25a, g25b, g25c⟩ := open_list Try.underlying30 Try.underlying3 (by kernel_rfl) y25
  subst el25
  obtain ⟨x26, e26, h26⟩ := leaf_int lf1 7 3 .i64 rfl Try.underlying3
  obtain ⟨x27, e27, h27⟩ := leaf_string lf1 8 9 rfl Try.underlying9
  obtain ⟨x28, e28, h28⟩ := leaf_int lf1 9 3 .i64 rfl Try.underlying3
  obtain ⟨x29, e29, h29⟩ := leaf_int lf1 10 3 .i64 rfl Try.underlying3
  obtain ⟨x30, e30, h30⟩ := leaf_int lf1 11 3 .i64 rfl Try.underlying3
  obtain ⟨x31, e31, h31⟩ := leaf_int lf1 12 3 .i64 rfl Try.underlying3
  obtain ⟨x32, e32, h32⟩ := leaf_int lf1 13 3 .i64 rfl Try.underlying3
  obtain ⟨a33, len33, c33, e33, y33⟩ := leaf_slice lf1 14 30 3 rfl Try.underlying30
  obtain ⟨dd33, pp33, y33⟩ := y33
  obtain ⟨x33, el33, i33, h33, g33a, g33b, g33c⟩ := open_list Try.underlying30 Try.underlying3 (by kernel_rfl) y33
  subst el33
  obtain ⟨x34, e34, h34⟩ := leaf_int lf1 15 3 .i64 rfl Try.underlying3
  obtain ⟨x35, e35, h35⟩ := leaf_int lf1 16 3 .i64 rfl Try.underlying3
  obtain ⟨x36, e36, h36⟩ := leaf_int lf1 17 3 .i64 rfl Try.underlying3
  obtain ⟨x37, e37, h37⟩ := leaf_int lf1 18 3 .i64 rfl Try.underlying3
  obtain rfl : cs1 = #[.string x19, .int .i64 x20, .int .i64 x21, .int .i64 x22, .int .i64 x23, .int .i64 x24, .slice a25 x25.length c25, .int .i64 x26, .string x27, .int .i64 x28, .int .i64 x29, .int .i64 x30, .int .i64 x31, .int .i64 x32, .slice a33 x33.length c33, .int .i64 x34, .int .i64 x35, .int .i64 x36, .int .i64 x37] := agg_eq sz1 (fun i hi => by
    match i, hi with
    | 0, _ => exact e19
    | 1, _ => exact e20
    | 2, _ => exact e21
    | 3, _ => exact e22
    | 4, _ => exact e23
    | 5, _ => exact e24
    | 6, _ => exact e25
    | 7, _ => exact e26
    | 8, _ => exact e27
    | 9, _ => exact e28
    | 10, _ => exact e29
    | 11, _ => exact e30
    | 12, _ => exact e31
    | 13, _ => exact e32
    | 14, _ => exact e33
    | 15, _ => exact e34
    | 16, _ => exact e35
    | 17, _ => exact e36
    | 18, _ => exact e37
    | _ + 19, hi => exact absurd hi (by simp))
  clear hA0 hval0 hsz0
  refine (changeSettled_walk x0 x1 x2 x3 x4 x5 x6 x7 x8 x9 x10 x11 x12 x13 x14 x15 x16 x17 x18 x19 x20 x21 x22 x23 x24 a25 c25 x25 x26 x27 x28 x29 x30 x31 x32 a33 c33 x33 x34 x35 x36 x37 W h0 h1 h2 h3 h4 h5 h6 h7 h8 h9 h10 h11 h12 h13 h14 h15 h16 h17 h18 h19 h20 h21 h22 h23 h24 h25 ⟨g25a, g25b, g25c⟩ i25 h26 h27 h28 h29 h30 h31 h32 h33 ⟨g33a, g33b, g33c⟩ i33 h34 h35 h36 h37).mono fun e W' ⟨he, bel⟩ => ?_
  subst he
  exact ⟨_, rfl, _, _, _, [], _, [], hW', trodAll_mk1 (shut_bool Try.underlying4 _), (trodAll_cons_mk (Below.trod laidOut (by kernel_rfl) (of_decide_eq_true (by kernel_rfl)) k0 bel lt0) (trodAll_cons_mk (Below.trod laidOut (by kernel_rfl) (of_decide_eq_true (by kernel_rfl)) k1 bel lt1) trodAll_mk0)), rfl, bel.frame _, fun h => by cases h⟩
theorem over : Rows.changeSettledRow.holds Try.pinned (OpenSpec.ofChange Rows.changeSettledSpec) :=
  OpenClaim.holds_of_wide 6 Try.f6 rfl rfl rfl rfl rfl rfl rfl ⟨rfl, rfl, rfl, rfl, rfl⟩ rfl rfl rfl rfl rfl (by kernel_rfl) Try.func6 (by kernel_rfl)
    (of_decide_eq_true (by kernel_rfl)) (by unfold Func.isWrapper; first | (rw [if_pos (by decide +kernel)]; kernel_rfl) | (rw [if_neg (by decide +kernel)]; exact ⟨rfl, rfl⟩))
    (fun os started H enc _ => lifted os started H enc)
end RowChangeSettled
/-- ChangeSettled: for every input the law returns true. -/
theorem changeSettled_holds : Rows.ChangeSettledSaid := RowChangeSettled.over
#print axioms changeSettled_holds
end Go.Proofs.Ytddphdkhaaolmaa
