/- Processes: Target, Bounds. -/
import Derived.Test.YtddphdkhaaolmaaProc
namespace Go.Proofs.Ytddphdkhaaolmaa
open Go.RowKit

def tgtErr (ga la de n : Int) : Int := if chkP ga la de ≠ 0 then chkP ga la de else if absB n 16777216 = true then 0 else 1
def tgtN (ga la de n : Int) : Int := if tgtErr ga la de n = 0 then tgt ga n else 0
theorem chkP_ne {ga la de : Int} (h : ¬ chkP ga la de = 0) : chkP ga la de = 1 := by
  unfold chkP at *
  split <;> simp_all
theorem ret_ii {k k' : IntKind} {a b c d : Int} (h : a = b ∧ c = d) : Ending.returned (.tuple #[.int k a, .int k' c]) = .returned (.tuple #[.int k b, .int k' d]) := by rw [h.1, h.2]
theorem ret_iii {k : IntKind} {a b c d x y : Int} (h : a = b ∧ c = d ∧ x = y) : Ending.returned (.tuple #[.int k a, .int k c, .int k x]) = .returned (.tuple #[.int k b, .int k d, .int k y]) := by rw [h.1, h.2.1, h.2.2]

theorem Target_any (ga la de n : Int) (w : World) : Calls Try.prog 65 #[.agg #[.int .i64 ga, .int .i64 la, .int .i64 de], .int .i64 n] w fun e w' => e = .returned (.tuple #[.int .i64 (tgtN ga la de n), .int .i64 (tgtErr ga la de n)]) ∧ Below w.heap.size w w' := by
  by_cases hc : chkP ga la de = 0
  · obtain ⟨b1, b2, b3, b4, b5, b6⟩ := chkP_ok hc
    cases ha : absB n 16777216
    · have R : Hid (0 = tgtN ga la de n ∧ 1 = tgtErr ga la de n) := hid (by simp [tgtN, tgtErr, hc, ha])
      go_enter Try.func65, Try.ntmps65
      go_wp2_with fail
      refine (check_any _ _ _ _).mono ?_
      rintro e w1 ⟨rfl, hb⟩
      have G1 : Hid (Blk w1 w.heap.size 25 #[.int .i64 ga, .int .i64 la, .int .i64 de]) := hid (Blk.below (Blk.at_new _ (by simp)) hb (by simp))
      have B1 : Hid (Below w.heap.size w w1) := hid (Below.trans (Below.alloc (Below.refl _ _) (by simp) _) (hb.mono (by simp)))
      have cg := G1.out.cell
      clear hb
      go_wp2_with fail
      refine (within_any _ _ _ (by omega)).mono ?_
      rintro e w2 ⟨rfl, rfl⟩
      go_wp2
      go_ret2
      exact ⟨ret_ii ⟨R.out.1, R.out.2⟩, B1.out⟩
    · have R : Hid (tgt ga n = tgtN ga la de n ∧ 0 = tgtErr ga la de n) := hid (by simp [tgtN, tgtErr, hc, ha])
      have hab := absB_true ha
      go_enter Try.func65, Try.ntmps65
      go_wp2_with fail
      refine (check_any _ _ _ _).mono ?_
      rintro e w1 ⟨rfl, hb⟩
      have G1 : Hid (Blk w1 w.heap.size 25 #[.int .i64 ga, .int .i64 la, .int .i64 de]) := hid (Blk.below (Blk.at_new _ (by simp)) hb (by simp))
      have B1 : Hid (Below w.heap.size w w1) := hid (Below.trans (Below.alloc (Below.refl _ _) (by simp) _) (hb.mono (by simp)))
      have cg := G1.out.cell
      clear hb
      go_wp2_with fail
      refine (within_any _ _ _ (by omega)).mono ?_
      rintro e w2 ⟨rfl, rfl⟩
      go_wp2_with fail
      refine (target_any _ _ _ _ _ ?_ ?_ ?_ ?_).mono ?_
      omega
      omega
      omega
      omega
      rintro e w3 ⟨rfl, hb⟩
      have B2 : Hid (Below w.heap.size w w3) := hid (B1.out.trans (hb.mono B1.out.size))
      clear hb cg
      go_wp2
      go_ret2
      exact ⟨ret_ii ⟨R.out.1, R.out.2⟩, B2.out⟩
  · have R : Hid (0 = tgtN ga la de n ∧ 1 = tgtErr ga la de n) := hid (by have := chkP_ne hc; simp [tgtN, tgtErr, this])
    have hc1 := chkP_ne hc
    go_enter Try.func65, Try.ntmps65
    go_wp2_with fail
    refine (check_any _ _ _ _).mono ?_
    rintro e w1 ⟨rfl, hb⟩
    have G1 : Hid (Blk w1 w.heap.size 25 #[.int .i64 ga, .int .i64 la, .int .i64 de]) := hid (Blk.below (Blk.at_new _ (by simp)) hb (by simp))
    have B1 : Hid (Below w.heap.size w w1) := hid (Below.trans (Below.alloc (Below.refl _ _) (by simp) _) (hb.mono (by simp)))
    have cg := G1.out.cell
    clear hb
    go_wp2
    go_ret2
    exact ⟨ret_ii ⟨R.out.1, R.out.2⟩, B1.out⟩

theorem rTarget_any (ga la de n : Int) (w : World) : Calls Try.prog 52 #[.agg #[.int .i64 ga, .int .i64 la, .int .i64 de], .int .i64 n] w fun e w' => e = .returned (.tuple #[.int .i64 (tgtN ga la de n), .int .i64 (tgtErr ga la de n)]) ∧ Below w.heap.size w w' := by
  by_cases hc : chkP ga la de = 0
  · obtain ⟨b1, b2, b3, b4, b5, b6⟩ := chkP_ok hc
    cases ha : absB n 16777216
    · have R : Hid (0 = tgtN ga la de n ∧ 1 = tgtErr ga la de n) := hid (by simp [tgtN, tgtErr, hc, ha])
      go_enter Try.func52, Try.ntmps52
      go_wp2_with fail
      refine (rcheck_any _ _ _ _).mono ?_
      rintro e w1 ⟨rfl, hb⟩
      have G1 : Hid (Blk w1 w.heap.size 25 #[.int .i64 ga, .int .i64 la, .int .i64 de]) := hid (Blk.below (Blk.at_new _ (by simp)) hb (by simp))
      have B1 : Hid (Below w.heap.size w w1) := hid (Below.trans (Below.alloc (Below.refl _ _) (by simp) _) (hb.mono (by simp)))
      have cg := G1.out.cell
      clear hb
      go_wp2_with fail
      refine (rout_any _ _).mono ?_
      rintro e w2 ⟨rfl, rfl⟩
      go_wp2
      go_ret2
      exact ⟨ret_ii ⟨R.out.1, R.out.2⟩, B1.out⟩
    · have R : Hid (tgt ga n = tgtN ga la de n ∧ 0 = tgtErr ga la de n) := hid (by simp [tgtN, tgtErr, hc, ha])
      have hab := absB_true ha
      go_enter Try.func52, Try.ntmps52
      go_wp2_with fail
      refine (rcheck_any _ _ _ _).mono ?_
      rintro e w1 ⟨rfl, hb⟩
      have G1 : Hid (Blk w1 w.heap.size 25 #[.int .i64 ga, .int .i64 la, .int .i64 de]) := hid (Blk.below (Blk.at_new _ (by simp)) hb (by simp))
      have B1 : Hid (Below w.heap.size w w1) := hid (Below.trans (Below.alloc (Below.refl _ _) (by simp) _) (hb.mono (by simp)))
      have cg := G1.out.cell
      clear hb
      go_wp2_with fail
      refine (rout_any _ _).mono ?_
      rintro e w2 ⟨rfl, rfl⟩
      go_wp2_with fail
      refine (rtarget_any _ _ _ _ _ ?_ ?_ ?_ ?_).mono ?_
      omega
      omega
      omega
      omega
      rintro e w3 ⟨rfl, hb⟩
      have B2 : Hid (Below w.heap.size w w3) := hid (B1.out.trans (hb.mono B1.out.size))
      clear hb cg
      go_wp2
      go_ret2
      exact ⟨ret_ii ⟨R.out.1, R.out.2⟩, B2.out⟩
  · have R : Hid (0 = tgtN ga la de n ∧ 1 = tgtErr ga la de n) := hid (by have := chkP_ne hc; simp [tgtN, tgtErr, this])
    have hc1 := chkP_ne hc
    go_enter Try.func52, Try.ntmps52
    go_wp2_with fail
    refine (rcheck_any _ _ _ _).mono ?_
    rintro e w1 ⟨rfl, hb⟩
    have G1 : Hid (Blk w1 w.heap.size 25 #[.int .i64 ga, .int .i64 la, .int .i64 de]) := hid (Blk.below (Blk.at_new _ (by simp)) hb (by simp))
    have B1 : Hid (Below w.heap.size w w1) := hid (Below.trans (Below.alloc (Below.refl _ _) (by simp) _) (hb.mono (by simp)))
    have cg := G1.out.cell
    clear hb
    go_wp2
    go_ret2
    exact ⟨ret_ii ⟨R.out.1, R.out.2⟩, B1.out⟩

def bdErr (ga la de lo hi v : Int) : Int := if chkP ga la de ≠ 0 then 1 else if absB lo 16777216 = true ∧ absB hi 16777216 = true ∧ 0 ≤ v ∧ v ≤ 65536 then (if hi < lo then 9 else 0) else 1
def bdLo (ga la de lo hi v : Int) : Int := if bdErr ga la de lo hi v = 0 then tgt ga lo - v * la else 0
def bdHi (ga la de lo hi v : Int) : Int := if bdErr ga la de lo hi v = 0 then tgt ga hi + v * la else 0
theorem tgt_bd {ga n : Int} (h1 : 1 ≤ ga) (h2 : ga ≤ 4096) (h3 : -67108864 ≤ n) (h4 : n ≤ 67108864) : -1073741824 ≤ tgt ga n ∧ tgt ga n ≤ 1073741824 := by
  have m := mul_bd (a := ga) (b := n) (A := 4096) (B := 67108864) (by omega) (by omega) (by omega) (by omega)
  unfold tgt
  omega

set_option maxRecDepth 100000 in
set_option maxHeartbeats 1000000 in
theorem bounds_any (ga la de lo hi v : Int) (w : World) : Calls Try.prog 90 #[.agg #[.int .i64 ga, .int .i64 la, .int .i64 de], .int .i64 lo, .int .i64 hi, .int .i64 v] w fun e w' => e = .returned (.tuple #[.int .i64 (bdLo ga la de lo hi v), .int .i64 (bdHi ga la de lo hi v), .int .i64 (bdErr ga la de lo hi v)]) ∧ Below w.heap.size w w' := by
  by_cases hc : chkP ga la de = 0
  · obtain ⟨b1, b2, b3, b4, b5, b6⟩ := chkP_ok hc
    cases h1 : absB lo 16777216
    · have R : Hid (0 = bdLo ga la de lo hi v ∧ 0 = bdHi ga la de lo hi v ∧ 1 = bdErr ga la de lo hi v) := hid (by simp [bdLo, bdHi, bdErr, hc, h1])
      go_enter Try.func90, Try.ntmps90
      go_wp2_with fail
      refine (check_any _ _ _ _).mono ?_
      rintro e w1 ⟨rfl, hb⟩
      have G1 : Hid (Blk w1 w.heap.size 25 #[.int .i64 ga, .int .i64 la, .int .i64 de]) := hid (Blk.below (Blk.at_new _ (by simp)) hb (by simp))
      have B1 : Hid (Below w.heap.size w w1) := hid (Below.trans (Below.alloc (Below.refl _ _) (by simp) _) (hb.mono (by simp)))
      have cg := G1.out.cell
      clear hb
      go_wp2_with fail
      refine (within_any _ _ _ (by omega)).mono ?_
      rintro e w2 ⟨rfl, rfl⟩
      go_wp2
      go_ret3
      exact ⟨ret_iii R.out, B1.out⟩
    cases h2 : absB hi 16777216
    · have R : Hid (0 = bdLo ga la de lo hi v ∧ 0 = bdHi ga la de lo hi v ∧ 1 = bdErr ga la de lo hi v) := hid (by simp [bdLo, bdHi, bdErr, hc, h1, h2])
      go_enter Try.func90, Try.ntmps90
      go_wp2_with fail
      refine (check_any _ _ _ _).mono ?_
      rintro e w1 ⟨rfl, hb⟩
      have G1 : Hid (Blk w1 w.heap.size 25 #[.int .i64 ga, .int .i64 la, .int .i64 de]) := hid (Blk.below (Blk.at_new _ (by simp)) hb (by simp))
      have B1 : Hid (Below w.heap.size w w1) := hid (Below.trans (Below.alloc (Below.refl _ _) (by simp) _) (hb.mono (by simp)))
      have cg := G1.out.cell
      clear hb
      go_wp2_with fail
      refine (within_any _ _ _ (by omega)).mono ?_
      rintro e w2 ⟨rfl, rfl⟩
      go_wp2_with fail
      refine (within_any _ _ _ (by omega)).mono ?_
      rintro e w2 ⟨rfl, rfl⟩
      go_wp2
      go_ret3
      exact ⟨ret_iii R.out, B1.out⟩
    have k1 := absB_true h1
    have k2 := absB_true h2
    by_cases h3 : v < 0
    · have h3' : ¬ 0 ≤ v := by omega
      have R : Hid (0 = bdLo ga la de lo hi v ∧ 0 = bdHi ga la de lo hi v ∧ 1 = bdErr ga la de lo hi v) := hid (by simp [bdLo, bdHi, bdErr, hc, h1, h2, h3'])
      go_enter Try.func90, Try.ntmps90
      go_wp2_with fail
      refine (check_any _ _ _ _).mono ?_
      rintro e w1 ⟨rfl, hb⟩
      have G1 : Hid (Blk w1 w.heap.size 25 #[.int .i64 ga, .int .i64 la, .int .i64 de]) := hid (Blk.below (Blk.at_new _ (by simp)) hb (by simp))
      have B1 : Hid (Below w.heap.size w w1) := hid (Below.trans (Below.alloc (Below.refl _ _) (by simp) _) (hb.mono (by simp)))
      have cg := G1.out.cell
      clear hb
      go_wp2_with fail
      refine (within_any _ _ _ (by omega)).mono ?_
      rintro e w2 ⟨rfl, rfl⟩
      go_wp2_with fail
      refine (within_any _ _ _ (by omega)).mono ?_
      rintro e w2 ⟨rfl, rfl⟩
      go_wp2
      go_ret3
      exact ⟨ret_iii R.out, B1.out⟩
    by_cases h4 : 65536 < v
    · have h4' : ¬ v ≤ 65536 := by omega
      have R : Hid (0 = bdLo ga la de lo hi v ∧ 0 = bdHi ga la de lo hi v ∧ 1 = bdErr ga la de lo hi v) := hid (by simp [bdLo, bdHi, bdErr, hc, h1, h2, h4'])
      go_enter Try.func90, Try.ntmps90
      go_wp2_with fail
      refine (check_any _ _ _ _).mono ?_
      rintro e w1 ⟨rfl, hb⟩
      have G1 : Hid (Blk w1 w.heap.size 25 #[.int .i64 ga, .int .i64 la, .int .i64 de]) := hid (Blk.below (Blk.at_new _ (by simp)) hb (by simp))
      have B1 : Hid (Below w.heap.size w w1) := hid (Below.trans (Below.alloc (Below.refl _ _) (by simp) _) (hb.mono (by simp)))
      have cg := G1.out.cell
      clear hb
      go_wp2_with fail
      refine (within_any _ _ _ (by omega)).mono ?_
      rintro e w2 ⟨rfl, rfl⟩
      go_wp2_with fail
      refine (within_any _ _ _ (by omega)).mono ?_
      rintro e w2 ⟨rfl, rfl⟩
      go_wp2
      go_ret3
      exact ⟨ret_iii R.out, B1.out⟩
    have h3' : 0 ≤ v := by omega
    have h4' : v ≤ 65536 := by omega
    by_cases h5 : hi < lo
    · have R : Hid (0 = bdLo ga la de lo hi v ∧ 0 = bdHi ga la de lo hi v ∧ 9 = bdErr ga la de lo hi v) := hid (by simp [bdLo, bdHi, bdErr, hc, h1, h2, h3', h4', h5])
      go_enter Try.func90, Try.ntmps90
      go_wp2_with fail
      refine (check_any _ _ _ _).mono ?_
      rintro e w1 ⟨rfl, hb⟩
      have G1 : Hid (Blk w1 w.heap.size 25 #[.int .i64 ga, .int .i64 la, .int .i64 de]) := hid (Blk.below (Blk.at_new _ (by simp)) hb (by simp))
      have B1 : Hid (Below w.heap.size w w1) := hid (Below.trans (Below.alloc (Below.refl _ _) (by simp) _) (hb.mono (by simp)))
      have cg := G1.out.cell
      clear hb
      go_wp2_with fail
      refine (within_any _ _ _ (by omega)).mono ?_
      rintro e w2 ⟨rfl, rfl⟩
      go_wp2_with fail
      refine (within_any _ _ _ (by omega)).mono ?_
      rintro e w2 ⟨rfl, rfl⟩
      go_wp2
      go_ret3
      exact ⟨ret_iii R.out, B1.out⟩
    · have R : Hid (tgt ga lo - v * la = bdLo ga la de lo hi v ∧ tgt ga hi + v * la = bdHi ga la de lo hi v ∧ 0 = bdErr ga la de lo hi v) := hid (by simp [bdLo, bdHi, bdErr, hc, h1, h2, h3', h4', h5])
      have t1 := tgt_bd (n := lo) b1 b2 (by omega) (by omega)
      have t2 := tgt_bd (n := hi) b1 b2 (by omega) (by omega)
      have m := mul_bd (a := v) (b := la) (A := 65536) (B := 256) h3' h4' (by omega) (by omega)
      have wr1 : IntKind.i64.wrap (v * la) = v * la := IntWalk.i64_in _ (by omega)
      have wr2 : IntKind.i64.wrap (tgt ga lo - v * la) = tgt ga lo - v * la := IntWalk.i64_in _ (by omega)
      have wr3 : IntKind.i64.wrap (tgt ga hi + v * la) = tgt ga hi + v * la := IntWalk.i64_in _ (by omega)
      go_enter Try.func90, Try.ntmps90
      go_wp2_with fail
      refine (check_any _ _ _ _).mono ?_
      rintro e w1 ⟨rfl, hb⟩
      have G1 : Hid (Blk w1 w.heap.size 25 #[.int .i64 ga, .int .i64 la, .int .i64 de]) := hid (Blk.below (Blk.at_new _ (by simp)) hb (by simp))
      have B1 : Hid (Below w.heap.size w w1) := hid (Below.trans (Below.alloc (Below.refl _ _) (by simp) _) (hb.mono (by simp)))
      have cg := G1.out.cell
      clear hb
      go_wp2_with fail
      refine (within_any _ _ _ (by omega)).mono ?_
      rintro e w2 ⟨rfl, rfl⟩
      go_wp2_with fail
      refine (within_any _ _ _ (by omega)).mono ?_
      rintro e w2 ⟨rfl, rfl⟩
      go_wp2_with fail
      go_region_held3 (fun w' => ∀ i, w'.cell? ⟨w.heap.size, i, none⟩ = (#[.int .i64 ga, .int .i64 la, .int .i64 de] : Array Value)[i]?) (first | exact cg | exact s3 | exact s4) (first
        | (go_at_call 89; refine (target_any ga la de lo _ b1 b2 (by omega) (by omega)).mono ?_; rintro e w3 ⟨rfl, hb⟩; have G2 := hid (Blk.below G1.out.drew hb G1.out.drew.lt); have B2 : Hid (Below w.heap.size w w3) := hid (B1.out.drew.trans (hb.mono B1.out.size)); have s3 := G2.out.cell; clear hb)
        | (go_at_call 89; refine (target_any ga la de hi _ b1 b2 (by omega) (by omega)).mono ?_; rintro e w4 ⟨rfl, hb⟩; have G3 := hid (Blk.below G2.out hb G2.out.lt); have B3 : Hid (Below w.heap.size w w4) := hid (B2.out.trans (hb.mono B2.out.size)); have s4 := G3.out.cell; clear hb))
      go_wp2
      go_ret3
      exact ⟨ret_iii R.out, B3.out⟩
  · have hc1 := chkP_ne hc
    have R : Hid (0 = bdLo ga la de lo hi v ∧ 0 = bdHi ga la de lo hi v ∧ 1 = bdErr ga la de lo hi v) := hid (by simp [bdLo, bdHi, bdErr, hc1])
    go_enter Try.func90, Try.ntmps90
    go_wp2_with fail
    refine (check_any _ _ _ _).mono ?_
    rintro e w1 ⟨rfl, hb⟩
    have G1 : Hid (Blk w1 w.heap.size 25 #[.int .i64 ga, .int .i64 la, .int .i64 de]) := hid (Blk.below (Blk.at_new _ (by simp)) hb (by simp))
    have B1 : Hid (Below w.heap.size w w1) := hid (Below.trans (Below.alloc (Below.refl _ _) (by simp) _) (hb.mono (by simp)))
    have cg := G1.out.cell
    clear hb
    go_wp2
    go_ret3
    exact ⟨ret_iii R.out, B1.out⟩

set_option maxRecDepth 100000 in
set_option maxHeartbeats 1000000 in
theorem rbounds_any (ga la de lo hi v : Int) (w : World) : Calls Try.prog 75 #[.agg #[.int .i64 ga, .int .i64 la, .int .i64 de], .int .i64 lo, .int .i64 hi, .int .i64 v] w fun e w' => e = .returned (.tuple #[.int .i64 (bdLo ga la de lo hi v), .int .i64 (bdHi ga la de lo hi v), .int .i64 (bdErr ga la de lo hi v)]) ∧ Below w.heap.size w w' := by
  by_cases hc : chkP ga la de = 0
  · obtain ⟨b1, b2, b3, b4, b5, b6⟩ := chkP_ok hc
    cases h1 : absB lo 16777216
    · have R : Hid (0 = bdLo ga la de lo hi v ∧ 0 = bdHi ga la de lo hi v ∧ 1 = bdErr ga la de lo hi v) := hid (by simp [bdLo, bdHi, bdErr, hc, h1])
      go_enter Try.func75, Try.ntmps75
      go_wp2_with fail
      refine (rcheck_any _ _ _ _).mono ?_
      rintro e w1 ⟨rfl, hb⟩
      have G1 : Hid (Blk w1 w.heap.size 25 #[.int .i64 ga, .int .i64 la, .int .i64 de]) := hid (Blk.below (Blk.at_new _ (by simp)) hb (by simp))
      have B1 : Hid (Below w.heap.size w w1) := hid (Below.trans (Below.alloc (Below.refl _ _) (by simp) _) (hb.mono (by simp)))
      have cg := G1.out.cell
      clear hb
      go_wp2_with fail
      refine (rout_any _ _).mono ?_
      rintro e w2 ⟨rfl, rfl⟩
      go_wp2
      go_ret3
      exact ⟨ret_iii R.out, B1.out⟩
    cases h2 : absB hi 16777216
    · have R : Hid (0 = bdLo ga la de lo hi v ∧ 0 = bdHi ga la de lo hi v ∧ 1 = bdErr ga la de lo hi v) := hid (by simp [bdLo, bdHi, bdErr, hc, h1, h2])
      go_enter Try.func75, Try.ntmps75
      go_wp2_with fail
      refine (rcheck_any _ _ _ _).mono ?_
      rintro e w1 ⟨rfl, hb⟩
      have G1 : Hid (Blk w1 w.heap.size 25 #[.int .i64 ga, .int .i64 la, .int .i64 de]) := hid (Blk.below (Blk.at_new _ (by simp)) hb (by simp))
      have B1 : Hid (Below w.heap.size w w1) := hid (Below.trans (Below.alloc (Below.refl _ _) (by simp) _) (hb.mono (by simp)))
      have cg := G1.out.cell
      clear hb
      go_wp2_with fail
      refine (rout_any _ _).mono ?_
      rintro e w2 ⟨rfl, rfl⟩
      go_wp2_with fail
      refine (rout_any _ _).mono ?_
      rintro e w2 ⟨rfl, rfl⟩
      go_wp2
      go_ret3
      exact ⟨ret_iii R.out, B1.out⟩
    have k1 := absB_true h1
    have k2 := absB_true h2
    by_cases h3 : v < 0
    · have h3' : ¬ 0 ≤ v := by omega
      have R : Hid (0 = bdLo ga la de lo hi v ∧ 0 = bdHi ga la de lo hi v ∧ 1 = bdErr ga la de lo hi v) := hid (by simp [bdLo, bdHi, bdErr, hc, h1, h2, h3'])
      go_enter Try.func75, Try.ntmps75
      go_wp2_with fail
      refine (rcheck_any _ _ _ _).mono ?_
      rintro e w1 ⟨rfl, hb⟩
      have G1 : Hid (Blk w1 w.heap.size 25 #[.int .i64 ga, .int .i64 la, .int .i64 de]) := hid (Blk.below (Blk.at_new _ (by simp)) hb (by simp))
      have B1 : Hid (Below w.heap.size w w1) := hid (Below.trans (Below.alloc (Below.refl _ _) (by simp) _) (hb.mono (by simp)))
      have cg := G1.out.cell
      clear hb
      go_wp2_with fail
      refine (rout_any _ _).mono ?_
      rintro e w2 ⟨rfl, rfl⟩
      go_wp2_with fail
      refine (rout_any _ _).mono ?_
      rintro e w2 ⟨rfl, rfl⟩
      go_wp2
      go_ret3
      exact ⟨ret_iii R.out, B1.out⟩
    by_cases h4 : 65536 < v
    · have h4' : ¬ v ≤ 65536 := by omega
      have R : Hid (0 = bdLo ga la de lo hi v ∧ 0 = bdHi ga la de lo hi v ∧ 1 = bdErr ga la de lo hi v) := hid (by simp [bdLo, bdHi, bdErr, hc, h1, h2, h4'])
      go_enter Try.func75, Try.ntmps75
      go_wp2_with fail
      refine (rcheck_any _ _ _ _).mono ?_
      rintro e w1 ⟨rfl, hb⟩
      have G1 : Hid (Blk w1 w.heap.size 25 #[.int .i64 ga, .int .i64 la, .int .i64 de]) := hid (Blk.below (Blk.at_new _ (by simp)) hb (by simp))
      have B1 : Hid (Below w.heap.size w w1) := hid (Below.trans (Below.alloc (Below.refl _ _) (by simp) _) (hb.mono (by simp)))
      have cg := G1.out.cell
      clear hb
      go_wp2_with fail
      refine (rout_any _ _).mono ?_
      rintro e w2 ⟨rfl, rfl⟩
      go_wp2_with fail
      refine (rout_any _ _).mono ?_
      rintro e w2 ⟨rfl, rfl⟩
      go_wp2
      go_ret3
      exact ⟨ret_iii R.out, B1.out⟩
    have h3' : 0 ≤ v := by omega
    have h4' : v ≤ 65536 := by omega
    by_cases h5 : hi < lo
    · have R : Hid (0 = bdLo ga la de lo hi v ∧ 0 = bdHi ga la de lo hi v ∧ 9 = bdErr ga la de lo hi v) := hid (by simp [bdLo, bdHi, bdErr, hc, h1, h2, h3', h4', h5])
      go_enter Try.func75, Try.ntmps75
      go_wp2_with fail
      refine (rcheck_any _ _ _ _).mono ?_
      rintro e w1 ⟨rfl, hb⟩
      have G1 : Hid (Blk w1 w.heap.size 25 #[.int .i64 ga, .int .i64 la, .int .i64 de]) := hid (Blk.below (Blk.at_new _ (by simp)) hb (by simp))
      have B1 : Hid (Below w.heap.size w w1) := hid (Below.trans (Below.alloc (Below.refl _ _) (by simp) _) (hb.mono (by simp)))
      have cg := G1.out.cell
      clear hb
      go_wp2_with fail
      refine (rout_any _ _).mono ?_
      rintro e w2 ⟨rfl, rfl⟩
      go_wp2_with fail
      refine (rout_any _ _).mono ?_
      rintro e w2 ⟨rfl, rfl⟩
      go_wp2
      go_ret3
      exact ⟨ret_iii R.out, B1.out⟩
    · have R : Hid (tgt ga lo - v * la = bdLo ga la de lo hi v ∧ tgt ga hi + v * la = bdHi ga la de lo hi v ∧ 0 = bdErr ga la de lo hi v) := hid (by simp [bdLo, bdHi, bdErr, hc, h1, h2, h3', h4', h5])
      have t1 := tgt_bd (n := lo) b1 b2 (by omega) (by omega)
      have t2 := tgt_bd (n := hi) b1 b2 (by omega) (by omega)
      have m := mul_bd (a := v) (b := la) (A := 65536) (B := 256) h3' h4' (by omega) (by omega)
      have wr1 : IntKind.i64.wrap (v * la) = v * la := IntWalk.i64_in _ (by omega)
      have wr2 : IntKind.i64.wrap (tgt ga lo - v * la) = tgt ga lo - v * la := IntWalk.i64_in _ (by omega)
      have wr3 : IntKind.i64.wrap (tgt ga hi + v * la) = tgt ga hi + v * la := IntWalk.i64_in _ (by omega)
      go_enter Try.func75, Try.ntmps75
      go_wp2_with fail
      refine (rcheck_any _ _ _ _).mono ?_
      rintro e w1 ⟨rfl, hb⟩
      have G1 : Hid (Blk w1 w.heap.size 25 #[.int .i64 ga, .int .i64 la, .int .i64 de]) := hid (Blk.below (Blk.at_new _ (by simp)) hb (by simp))
      have B1 : Hid (Below w.heap.size w w1) := hid (Below.trans (Below.alloc (Below.refl _ _) (by simp) _) (hb.mono (by simp)))
      have cg := G1.out.cell
      clear hb
      go_wp2_with fail
      refine (rout_any _ _).mono ?_
      rintro e w2 ⟨rfl, rfl⟩
      go_wp2_with fail
      refine (rout_any _ _).mono ?_
      rintro e w2 ⟨rfl, rfl⟩
      go_wp2_with fail
      go_region_held3 (fun w' => ∀ i, w'.cell? ⟨w.heap.size, i, none⟩ = (#[.int .i64 ga, .int .i64 la, .int .i64 de] : Array Value)[i]?) (first | exact cg | exact s3 | exact s4) (first
        | (go_at_call 78; refine (rtarget_any ga la de lo _ b1 b2 (by omega) (by omega)).mono ?_; rintro e w3 ⟨rfl, hb⟩; have G2 := hid (Blk.below G1.out.drew hb G1.out.drew.lt); have B2 : Hid (Below w.heap.size w w3) := hid (B1.out.drew.trans (hb.mono B1.out.size)); have s3 := G2.out.cell; clear hb)
        | (go_at_call 78; refine (rtarget_any ga la de hi _ b1 b2 (by omega) (by omega)).mono ?_; rintro e w4 ⟨rfl, hb⟩; have G3 := hid (Blk.below G2.out hb G2.out.lt); have B3 : Hid (Below w.heap.size w w4) := hid (B2.out.trans (hb.mono B2.out.size)); have s4 := G3.out.cell; clear hb))
      go_wp2
      go_ret3
      exact ⟨ret_iii R.out, B3.out⟩
  · have hc1 := chkP_ne hc
    have R : Hid (0 = bdLo ga la de lo hi v ∧ 0 = bdHi ga la de lo hi v ∧ 1 = bdErr ga la de lo hi v) := hid (by simp [bdLo, bdHi, bdErr, hc1])
    go_enter Try.func75, Try.ntmps75
    go_wp2_with fail
    refine (rcheck_any _ _ _ _).mono ?_
    rintro e w1 ⟨rfl, hb⟩
    have G1 : Hid (Blk w1 w.heap.size 25 #[.int .i64 ga, .int .i64 la, .int .i64 de]) := hid (Blk.below (Blk.at_new _ (by simp)) hb (by simp))
    have B1 : Hid (Below w.heap.size w w1) := hid (Below.trans (Below.alloc (Below.refl _ _) (by simp) _) (hb.mono (by simp)))
    have cg := G1.out.cell
    clear hb
    go_wp2
    go_ret3
    exact ⟨ret_iii R.out, B1.out⟩
end Go.Proofs.Ytddphdkhaaolmaa
