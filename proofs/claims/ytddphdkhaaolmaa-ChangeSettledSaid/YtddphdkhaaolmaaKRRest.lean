/- Processes: the reference's Rest. -/
import Derived.Test.YtddphdkhaaolmaaKRest2
namespace Go.Proofs.Ytddphdkhaaolmaa
open Go.RowKit

set_option maxRecDepth 100000 in
set_option maxHeartbeats 1000000 in
theorem rrest_any (ga la de lo hi v : Int) (w : World) : Calls Try.prog 51 #[.agg #[.int .i64 ga, .int .i64 la, .int .i64 de], .int .i64 lo, .int .i64 hi, .int .i64 v] w (RestPost ga la de lo hi v w) := by
  by_cases hb0 : bdErr ga la de lo hi 0 = 0
  · obtain ⟨hc, k1, k2, k3, k4, k5, _, _⟩ := bd_ok hb0
    obtain ⟨b1, b2, b3, b4, b5, b6⟩ := chkP_ok hc
    cases ha : absB v 268435456
    · have R : Hid (1 = restErr ga la de lo hi v) := hid (by simp [restErr, hb0, ha])
      go_enter Try.func51, Try.ntmps51
      go_wp2_with fail
      refine (rbounds_any _ _ _ _ _ _ _).mono ?_
      rintro e w1 ⟨rfl, hb⟩
      have G1 : Hid (Blk w1 w.heap.size 25 #[.int .i64 ga, .int .i64 la, .int .i64 de]) := hid (Blk.below (Blk.at_new _ (by simp)) hb (by simp))
      have B1 : Hid (Below w.heap.size w w1) := hid (Below.trans (Below.alloc (Below.refl _ _) (by simp) _) (hb.mono (by simp)))
      have cg := G1.out.cell
      clear hb
      go_wp2_with fail
      refine (rvalue_any _ _).mono ?_
      rintro e w2 ⟨rfl, rfl⟩
      go_wp2
      go_ret2
      exact rest_bad R.out (by decide) B1.out
    have hv := absB_true ha
    have R : Hid (0 = restErr ga la de lo hi v) := hid (by simp [restErr, hb0, ha])
    go_enter Try.func51, Try.ntmps51
    go_wp2_with fail
    refine (rbounds_any _ _ _ _ _ _ _).mono ?_
    rintro e w1 ⟨rfl, hb⟩
    have G1 : Hid (Blk w1 w.heap.size 25 #[.int .i64 ga, .int .i64 la, .int .i64 de]) := hid (Blk.below (Blk.at_new _ (by simp)) hb (by simp))
    have B1 : Hid (Below w.heap.size w w1) := hid (Below.trans (Below.alloc (Below.refl _ _) (by simp) _) (hb.mono (by simp)))
    have cg := G1.out.cell
    clear hb
    go_wp2_with fail
    refine (rvalue_any _ _).mono ?_
    rintro e w2 ⟨rfl, rfl⟩
    go_wp2_with fail
    refine (rfirst_any _ _ _ _ _ _ _ b1 b2 k1 k5 k4).mono ?_
    rintro e w2 ⟨n, rfl, hL, hb⟩
    have G2 := hid (Blk.below G1.out hb G1.out.lt)
    have B2 : Hid (Below w.heap.size w w2) := hid (B1.out.trans (hb.mono B1.out.size))
    clear hb cg
    have cg := G2.out.cell
    have HL := hid hL
    obtain ⟨l1, l2, _, _⟩ := hL
    have tn := tgt_bd (n := n) b1 b2 (by omega) (by omega)
    have tm := tgt_bd (n := n - 1) b1 b2 (by omega) (by omega)
    by_cases c1 : n = lo
    · have W : Hid (IsRest ga lo hi v lo) := hid (by have := HL.out; rw [c1] at this; exact rest_r1 b1 this k5)
      go_wp2
      go_ret2
      exact rest_good R.out W.out B2.out
    have d1 : (n == lo) = false := by simpa using c1
    have wn : IntKind.i64.wrap (n - 1) = n - 1 := IntWalk.i64_in _ (by omega)
    go_wp2_with fail
    go_region_held3 (fun w' => ∀ i, w'.cell? ⟨w.heap.size, i, none⟩ = (#[.int .i64 ga, .int .i64 la, .int .i64 de] : Array Value)[i]?) (first | exact cg | exact s3 | exact s4) (first
      | (go_at_call 78; refine (rtarget_any _ _ _ (n - 1) _ b1 b2 (by omega) (by omega)).mono ?_; rintro e w3 ⟨rfl, hb⟩; have G3 := hid (Blk.below G2.out.drew hb G2.out.drew.lt); have B3 : Hid (Below w.heap.size w w3) := hid (B2.out.drew.trans (hb.mono B2.out.size)); have s3 := G3.out.cell; clear hb)
      | (go_at_call 77; refine (rfirst_any _ _ _ _ _ (tgt ga (n - 1)) _ b1 b2 k1 k5 k4).mono ?_; rintro e w4 ⟨m, rfl, hM, hb⟩; have G4 := hid (Blk.below G3.out hb G3.out.lt); have B4 : Hid (Below w.heap.size w w4) := hid (B3.out.trans (hb.mono B3.out.size)); have s4 := G4.out.cell; clear hb; have HM := hid hM; clear hM))
    obtain ⟨q1, q2, _, _⟩ := id HM.out
    have hm := first_in (show lo ≤ n - 1 by omega) (by omega) HM.out
    have HM2 := hid (least_at b1 (show lo ≤ n - 1 by omega) (by omega) hm)
    have q3 := hm.2.1
    have tq := tgt_bd (n := m) b1 b2 (by omega) (by omega)
    clear cg hm
    have cg := G4.out.cell
    by_cases c2 : hi < n
    · have W := hid (rest_r2 b1 HL.out c1 HM.out (.inl c2))
      have dg : decide (n > hi) = true := decide_eq_true (by omega)
      have dg2 : decide (hi < n) = true := decide_eq_true (by omega)
      go_wp2_with fail
      go_quiet (fail)
      have B5 : Hid (Below w.heap.size w (w4.drewN nq)) := hid (B4.out.trans (((Chg.refl Nn w4).drewN nq).below B4.out.size (fun _ _ => id)))
      go_wp2
      go_ret2
      exact rest_good R.out W.out B5.out
    have c3 : n ≤ hi := by omega
    have dg : decide (n > hi) = false := decide_eq_false (by omega)
    have dg2 : decide (hi < n) = false := decide_eq_false (by omega)
    have wa : IntKind.i64.wrap (v - tgt ga m) = v - tgt ga m := IntWalk.i64_in _ (by omega)
    have wb : IntKind.i64.wrap (tgt ga n - v) = tgt ga n - v := IntWalk.i64_in _ (by omega)
    by_cases c4 : v - tgt ga m ≤ tgt ga n - v
    · have W := hid (rest_r2 b1 HL.out c1 HM.out (.inr c4))
      go_wp2_with fail
      go_region_held3 (fun w' => ∀ i, w'.cell? ⟨w.heap.size, i, none⟩ = (#[.int .i64 ga, .int .i64 la, .int .i64 de] : Array Value)[i]?) (first | exact cg | exact s5 | exact s6) (first
        | (go_at_call_of 78 (m); refine (rtarget_any _ _ _ m _ b1 b2 (by omega) (by omega)).mono ?_; rintro e w5 ⟨rfl, hb⟩; have G5 := hid (Blk.below G4.out.drew hb G4.out.drew.lt); have B5 : Hid (Below w.heap.size w w5) := hid (B4.out.drew.trans (hb.mono B4.out.size)); have s5 := G5.out.cell; clear hb)
        | (go_at_call 78; refine (rtarget_any _ _ _ n _ b1 b2 (by omega) (by omega)).mono ?_; rintro e w6 ⟨rfl, hb⟩; have G6 := hid (Blk.below G5.out hb G5.out.lt); have B6 : Hid (Below w.heap.size w w6) := hid (B5.out.trans (hb.mono B5.out.size)); have s6 := G6.out.cell; clear hb))
      go_wp2
      all_goals first | (exfalso; omega) | (go_ret2; exact rest_good R.out W.out B6.out)
    · have W := hid (rest_r3 b1 HL.out c1 HM.out ⟨c3, c4⟩)
      go_wp2_with fail
      go_region_held3 (fun w' => ∀ i, w'.cell? ⟨w.heap.size, i, none⟩ = (#[.int .i64 ga, .int .i64 la, .int .i64 de] : Array Value)[i]?) (first | exact cg | exact s5 | exact s6) (first
        | (go_at_call_of 78 (m); refine (rtarget_any _ _ _ m _ b1 b2 (by omega) (by omega)).mono ?_; rintro e w5 ⟨rfl, hb⟩; have G5 := hid (Blk.below G4.out.drew hb G4.out.drew.lt); have B5 : Hid (Below w.heap.size w w5) := hid (B4.out.drew.trans (hb.mono B4.out.size)); have s5 := G5.out.cell; clear hb)
        | (go_at_call 78; refine (rtarget_any _ _ _ n _ b1 b2 (by omega) (by omega)).mono ?_; rintro e w6 ⟨rfl, hb⟩; have G6 := hid (Blk.below G5.out hb G5.out.lt); have B6 : Hid (Below w.heap.size w w6) := hid (B5.out.trans (hb.mono B5.out.size)); have s6 := G6.out.cell; clear hb))
      go_wp2
      all_goals first | (exfalso; omega) | (go_ret2; exact rest_good R.out W.out B6.out)
  · have R : Hid (bdErr ga la de lo hi 0 = restErr ga la de lo hi v) := hid (by simp [restErr, hb0])
    have e3 : (bdErr ga la de lo hi 0 != 0) = true := by simpa using hb0
    go_enter Try.func51, Try.ntmps51
    go_wp2_with fail
    refine (rbounds_any _ _ _ _ _ _ _).mono ?_
    rintro e w1 ⟨rfl, hb⟩
    have G1 : Hid (Blk w1 w.heap.size 25 #[.int .i64 ga, .int .i64 la, .int .i64 de]) := hid (Blk.below (Blk.at_new _ (by simp)) hb (by simp))
    have B1 : Hid (Below w.heap.size w w1) := hid (Below.trans (Below.alloc (Below.refl _ _) (by simp) _) (hb.mono (by simp)))
    have cg := G1.out.cell
    clear hb
    go_wp2
    go_ret2
    exact rest_bad R.out hb0 B1.out
end Go.Proofs.Ytddphdkhaaolmaa
