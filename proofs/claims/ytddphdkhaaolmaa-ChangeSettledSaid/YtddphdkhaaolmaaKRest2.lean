/- Processes: Rest. -/
import Derived.Test.YtddphdkhaaolmaaKNear
namespace Go.Proofs.Ytddphdkhaaolmaa
open Go.RowKit

def restErr (ga la de lo hi v : Int) : Int := if bdErr ga la de lo hi 0 ≠ 0 then bdErr ga la de lo hi 0 else if absB v 268435456 = true then 0 else 1
theorem bd_ok {ga la de lo hi v : Int} (h : bdErr ga la de lo hi v = 0) : chkP ga la de = 0 ∧ -16777216 ≤ lo ∧ lo ≤ 16777216 ∧ -16777216 ≤ hi ∧ hi ≤ 16777216 ∧ lo ≤ hi ∧ 0 ≤ v ∧ v ≤ 65536 := by
  unfold bdErr at h
  split at h
  · cases h
  · rename_i hq
    split at h
    · rename_i hb
      split at h
      · cases h
      · have h1 := absB_true hb.1
        have h2 := absB_true hb.2.1
        exact ⟨by simpa using hq, h1.1, h1.2, h2.1, h2.2, by omega, hb.2.2.1, hb.2.2.2⟩
    · cases h
def RestPost (ga la de lo hi v : Int) (w : World) : Ending → World → Prop := fun e w' => ∃ n, e = .returned (.tuple #[.int .i64 n, .int .i64 (restErr ga la de lo hi v)]) ∧ (restErr ga la de lo hi v = 0 → IsRest ga lo hi v n) ∧ (restErr ga la de lo hi v ≠ 0 → n = 0) ∧ Below w.heap.size w w'
theorem rest_bad {ga la de lo hi v x : Int} {w w' : World} (h : x = restErr ga la de lo hi v) (hx : x ≠ 0) (hb : Below w.heap.size w w') : RestPost ga la de lo hi v w (.returned (.tuple #[.int .i64 0, .int .i64 x])) w' :=
  ⟨0, by rw [h], fun k => absurd (h.trans k) hx, fun _ => rfl, hb⟩
theorem rest_good {ga la de lo hi v n : Int} {w w' : World} (h : 0 = restErr ga la de lo hi v) (hn : IsRest ga lo hi v n) (hb : Below w.heap.size w w') : RestPost ga la de lo hi v w (.returned (.tuple #[.int .i64 n, .int .i64 0])) w' :=
  ⟨n, by rw [h], fun _ => hn, fun k => absurd h.symm k, hb⟩

set_option maxRecDepth 100000 in
set_option maxHeartbeats 1000000 in
theorem rest_any (ga la de lo hi v : Int) (w : World) : Calls Try.prog 67 #[.agg #[.int .i64 ga, .int .i64 la, .int .i64 de], .int .i64 lo, .int .i64 hi, .int .i64 v] w (RestPost ga la de lo hi v w) := by
  by_cases hb0 : bdErr ga la de lo hi 0 = 0
  · obtain ⟨hc, k1, k2, k3, k4, k5, _, _⟩ := bd_ok hb0
    obtain ⟨b1, b2, b3, b4, b5, b6⟩ := chkP_ok hc
    cases ha : absB v 268435456
    · have R : Hid (1 = restErr ga la de lo hi v) := hid (by simp [restErr, hb0, ha])
      go_enter Try.func67, Try.ntmps67
      go_wp2_with fail
      refine (bounds_any _ _ _ _ _ _ _).mono ?_
      rintro e w1 ⟨rfl, hb⟩
      have G1 : Hid (Blk w1 w.heap.size 25 #[.int .i64 ga, .int .i64 la, .int .i64 de]) := hid (Blk.below (Blk.at_new _ (by simp)) hb (by simp))
      have B1 : Hid (Below w.heap.size w w1) := hid (Below.trans (Below.alloc (Below.refl _ _) (by simp) _) (hb.mono (by simp)))
      have cg := G1.out.cell
      clear hb
      go_wp2_with fail
      refine (within_any _ _ _ (by omega)).mono ?_
      rintro e w2 ⟨rfl, rfl⟩
      go_wp2
      go_ret2
      exact rest_bad R.out (by decide) B1.out
    have hv := absB_true ha
    have R : Hid (0 = restErr ga la de lo hi v) := hid (by simp [restErr, hb0, ha])
    go_enter Try.func67, Try.ntmps67
    go_wp2_with fail
    refine (bounds_any _ _ _ _ _ _ _).mono ?_
    rintro e w1 ⟨rfl, hb⟩
    have G1 : Hid (Blk w1 w.heap.size 25 #[.int .i64 ga, .int .i64 la, .int .i64 de]) := hid (Blk.below (Blk.at_new _ (by simp)) hb (by simp))
    have B1 : Hid (Below w.heap.size w w1) := hid (Below.trans (Below.alloc (Below.refl _ _) (by simp) _) (hb.mono (by simp)))
    have cg := G1.out.cell
    clear hb
    go_wp2_with fail
    refine (within_any _ _ _ (by omega)).mono ?_
    rintro e w2 ⟨rfl, rfl⟩
    go_wp2_with fail
    refine (least_any _ _ _ _ _ _ _ b1 b2 k1 k5 k4).mono ?_
    rintro e w2 ⟨n, rfl, hL, hb⟩
    have G2 := hid (Blk.below G1.out hb G1.out.lt)
    have B2 : Hid (Below w.heap.size w w2) := hid (B1.out.trans (hb.mono B1.out.size))
    clear hb cg
    have cg := G2.out.cell
    have HL := hid hL
    obtain ⟨l1, l2, _, _⟩ := hL
    have tn := tgt_bd (n := n) b1 b2 (by omega) (by omega)
    have tm := tgt_bd (n := n - 1) b1 b2 (by omega) (by omega)
    go_wp2_with fail
    refine (target_any _ _ _ _ _ b1 b2 (by omega) (by omega)).mono ?_
    rintro e w3 ⟨rfl, hb⟩
    have G3 := hid (Blk.below G2.out hb G2.out.lt)
    have B3 : Hid (Below w.heap.size w w3) := hid (B2.out.trans (hb.mono B2.out.size))
    clear hb cg
    have cg := G3.out.cell
    by_cases c1 : n = lo
    · have W : Hid (IsRest ga lo hi v lo) := hid (by have := rest_p1 b1 HL.out (.inl c1); rwa [c1] at this)
      go_wp2
      go_ret2
      exact rest_good R.out W.out B3.out
    by_cases c2 : tgt ga n = v
    · have W := hid (rest_p1 b1 HL.out (.inr c2))
      go_wp2
      go_ret2
      exact rest_good R.out W.out B3.out
    have d1 : (n == lo) = false := by simpa using c1
    have d2 : (tgt ga n == v) = false := by simpa using c2
    have d3 : ¬ (n = lo ∨ tgt ga n = v) := by omega
    go_wp2_with fail
    refine (target_any _ _ _ (n - 1) _ b1 b2 (by omega) (by omega)).mono ?_
    rintro e w4 ⟨rfl, hb⟩
    have G4 := hid (Blk.below G3.out hb G3.out.lt)
    have B4 : Hid (Below w.heap.size w w4) := hid (B3.out.trans (hb.mono B3.out.size))
    clear hb cg
    have cg := G4.out.cell
    by_cases c3 : tgt ga n < v
    · have C := hid c3
      go_wp2_with fail
      refine (least_any _ _ _ _ _ _ _ b1 b2 k1 k5 k4).mono ?_
      rintro e w5 ⟨r, rfl, hL2, hb⟩
      have G5 := hid (Blk.below G4.out hb G4.out.lt)
      have B5 : Hid (Below w.heap.size w w5) := hid (B4.out.trans (hb.mono B4.out.size))
      clear hb cg
      have cg := G5.out.cell
      have W := hid (rest_p2 b1 HL.out (.inl (by have := C.out; omega)) hL2)
      go_wp2
      go_ret2
      exact rest_good R.out W.out B5.out
    have c4 : v ≤ tgt ga n := by omega
    by_cases c5 : tgt ga n - v < v - tgt ga (n - 1)
    · have C := hid c5
      go_wp2_with fail
      refine (least_any _ _ _ _ _ _ _ b1 b2 k1 k5 k4).mono ?_
      rintro e w5 ⟨r, rfl, hL2, hb⟩
      have G5 := hid (Blk.below G4.out hb G4.out.lt)
      have B5 : Hid (Below w.heap.size w w5) := hid (B4.out.trans (hb.mono B4.out.size))
      clear hb cg
      have cg := G5.out.cell
      have W := hid (rest_p2 b1 HL.out (.inr (by have := C.out; omega)) hL2)
      go_wp2
      go_ret2
      exact rest_good R.out W.out B5.out
    · have C := hid (And.intro c3 c5)
      go_wp2_with fail
      refine (least_any _ _ _ _ _ _ _ b1 b2 k1 k5 k4).mono ?_
      rintro e w5 ⟨r, rfl, hL2, hb⟩
      have G5 := hid (Blk.below G4.out hb G4.out.lt)
      have B5 : Hid (Below w.heap.size w w5) := hid (B4.out.trans (hb.mono B4.out.size))
      clear hb cg
      have cg := G5.out.cell
      have W := hid (rest_p3 b1 HL.out (fun q => c1 q) (by have := C.out; omega) hL2)
      go_wp2
      go_ret2
      exact rest_good R.out W.out B5.out
  · have R : Hid (bdErr ga la de lo hi 0 = restErr ga la de lo hi v) := hid (by simp [restErr, hb0])
    have e3 : (bdErr ga la de lo hi 0 != 0) = true := by simpa using hb0
    go_enter Try.func67, Try.ntmps67
    go_wp2_with fail
    refine (bounds_any _ _ _ _ _ _ _).mono ?_
    rintro e w1 ⟨rfl, hb⟩
    have G1 : Hid (Blk w1 w.heap.size 25 #[.int .i64 ga, .int .i64 la, .int .i64 de]) := hid (Blk.below (Blk.at_new _ (by simp)) hb (by simp))
    have B1 : Hid (Below w.heap.size w w1) := hid (Below.trans (Below.alloc (Below.refl _ _) (by simp) _) (hb.mono (by simp)))
    have cg := G1.out.cell
    clear hb
    go_wp2
    go_ret2
    exact rest_bad R.out hb0 B1.out
end Go.Proofs.Ytddphdkhaaolmaa
