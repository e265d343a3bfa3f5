/- ClosedChecks. -/
import Derived.Test.YtkcalkiibolceaaLaw27
namespace Go.Proofs.Ytkcalkiibolceaa
open Go.RowKit

set_option maxHeartbeats 1000000 in
theorem closedChecks_walk (x0 : Int) (x1 : Int) (x2 : Int) (x3 : Int) (x4 : Int) (x5 : Int) (x6 : Int) (x7 : Int) (x8 : Int) (x9 : Int) (w : World) (_h0 : (Lit.int .i64 x0).wf = true) (_h1 : (Lit.int .i64 x1).wf = true) (_h2 : (Lit.int .i64 x2).wf = true) (_h3 : (Lit.int .i64 x3).wf = true) (_h4 : (Lit.int .i64 x4).wf = true) (_h5 : (Lit.int .i64 x5).wf = true) (_h6 : (Lit.int .i64 x6).wf = true) (_h7 : (Lit.int .i64 x7).wf = true) (_h8 : (Lit.int .i64 x8).wf = true) (_h9 : (Lit.int .i64 x9).wf = true) :
    Calls Try.prog 3 #[.agg #[.int .i64 x0, .int .i64 x1, .int .i64 x2, .int .i64 x3, .int .i64 x4, .int .i64 x5, .int .i64 x6, .int .i64 x7, .int .i64 x8], .int .i64 x9] w fun e w' => e = .returned (.bool true) ∧ Below w.heap.size w w' := by
  go_enter Try.func3, Try.ntmps3
  go_wp2_with fail
  refine (climits_any _ _ _ _ _ _ _ _ _ _ _).mono ?_
  rintro e w1 ⟨rfl, hb⟩
  have C1 : Hid (Blk w1 (w.heap.size) 27 #[.int .i64 x0, .int .i64 x1, .int .i64 x2, .int .i64 x3, .int .i64 x4, .int .i64 x5, .int .i64 x6, .int .i64 x7, .int .i64 x8]) := hid (Blk.below (Blk.at_new _ (by simp)) hb (by simp <;> omega))
  have B1 : Hid (Below w.heap.size w w1) := hid (Below.trans ((Below.refl _ _).alloc (by simp <;> omega) _) (hb.mono (by simp <;> omega)))
  clear hb
  have cC_0 : ∀ (i : Nat), w1.cell? ⟨w.heap.size, i, none⟩ = (#[.int .i64 x0, .int .i64 x1, .int .i64 x2, .int .i64 x3, .int .i64 x4, .int .i64 x5, .int .i64 x6, .int .i64 x7, .int .i64 x8] : Array Value)[i]? := Blk.cell C1.out
  have cC_1 : ∀ (o0 : Obj) (i : Nat), (w1.alloc o0).cell? ⟨w.heap.size, i, none⟩ = (#[.int .i64 x0, .int .i64 x1, .int .i64 x2, .int .i64 x3, .int .i64 x4, .int .i64 x5, .int .i64 x6, .int .i64 x7, .int .i64 x8] : Array Value)[i]? := fun _ => Blk.cell (Blk.alloc C1.out _)
  go_wp2_with fail
  refine (rclimits_any _ _ _ _ _ _ _ _ _ _ _).mono ?_
  rintro e w2 ⟨rfl, hb⟩
  have C2 := hid (Blk.below C1.out hb (Blk.lt C1.out))
  have B2 : Hid (Below w.heap.size w w2) := hid (Below.trans B1.out (hb.mono (Nat.le_trans B1.out.size (by simp <;> omega))))
  clear hb
  clear cC_0 cC_1
  have cC_0 : ∀ (i : Nat), w2.cell? ⟨w.heap.size, i, none⟩ = (#[.int .i64 x0, .int .i64 x1, .int .i64 x2, .int .i64 x3, .int .i64 x4, .int .i64 x5, .int .i64 x6, .int .i64 x7, .int .i64 x8] : Array Value)[i]? := Blk.cell C2.out
  have cC_1 : ∀ (o0 : Obj) (i : Nat), (w2.alloc o0).cell? ⟨w.heap.size, i, none⟩ = (#[.int .i64 x0, .int .i64 x1, .int .i64 x2, .int .i64 x3, .int .i64 x4, .int .i64 x5, .int .i64 x6, .int .i64 x7, .int .i64 x8] : Array Value)[i]? := fun _ => Blk.cell (Blk.alloc C2.out _)
  clear cC_0 cC_1
  go_wp2_with fail
  go_region_held3 (fun w' => (∀ i, w'.cell? ⟨w.heap.size, i, none⟩ = (#[.int .i64 x0, .int .i64 x1, .int .i64 x2, .int .i64 x3, .int .i64 x4, .int .i64 x5, .int .i64 x6, .int .i64 x7, .int .i64 x8] : Array Value)[i]?)) (first | exact Blk.cell C2.out | exact s3 | exact s4 | exact s5) (first
    | (go_at_call 12; refine (ccheck_any _ _ _ _ _ _ _ _ _ _).mono ?_; rintro e w3 ⟨rfl, hb⟩; have C3 := hid (Blk.below (Blk.drew C2.out) hb (Blk.lt (Blk.drew C2.out))); have B3 : Hid (Below w.heap.size w w3) := hid (Below.trans (Below.drew B2.out) (hb.mono (Nat.le_trans B2.out.size (by simp <;> omega)))); clear hb; have s3 := C3.out.cell)
    | (go_at_call 13; refine (rccheck_any _ _ _ _ _ _ _ _ _ _).mono ?_; rintro e w4 ⟨rfl, hb⟩; have C4 := hid (Blk.below C3.out hb (Blk.lt C3.out)); have B4 : Hid (Below w.heap.size w w4) := hid (Below.trans B3.out (hb.mono (Nat.le_trans B3.out.size (by simp <;> omega)))); clear hb; have s4 := C4.out.cell)
    | (go_at_call 14; refine (awake_any _).mono ?_; rintro e w5 ⟨rfl, hb⟩; have C5 := hid (Blk.below C4.out hb (Blk.lt C4.out)); have B5 : Hid (Below w.heap.size w w5) := hid (Below.trans B4.out (hb.mono (Nat.le_trans B4.out.size (by simp <;> omega)))); clear hb; have s5 := C5.out.cell))
  go_wp2
  go_ret
  exact ⟨rfl, B5.out⟩
end Go.Proofs.Ytkcalkiibolceaa
