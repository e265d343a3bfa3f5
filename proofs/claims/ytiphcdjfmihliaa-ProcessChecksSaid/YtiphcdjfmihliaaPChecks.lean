/- ProcessChecks. -/
import Derived.Test.YtiphcdjfmihliaaLaw26
namespace Go.Proofs.Ytiphcdjfmihliaa
open Go.RowKit

set_option maxHeartbeats 1000000 in
theorem processChecks_walk (x0 : Int) (x1 : Int) (x2 : Int) (x3 : Int) (w : World) (_h0 : (Lit.int .i64 x0).wf = true) (_h1 : (Lit.int .i64 x1).wf = true) (_h2 : (Lit.int .i64 x2).wf = true) (_h3 : (Lit.int .i64 x3).wf = true) :
    Calls Try.prog 3 #[.agg #[.int .i64 x0, .int .i64 x1, .int .i64 x2], .int .i64 x3] w fun e w' => e = .returned (.bool true) ∧ Below w.heap.size w w' := by
  go_enter Try.func3, Try.ntmps3
  go_wp2_with fail
  refine (Target_any _ _ _ _ _).mono ?_
  rintro e w1 ⟨rfl, hb⟩
  have G1 : Hid (Blk w1 (w.heap.size) 23 #[.int .i64 x0, .int .i64 x1, .int .i64 x2]) := hid (Blk.below (Blk.at_new _ (by simp)) hb (by simp <;> omega))
  have B1 : Hid (Below w.heap.size w w1) := hid (Below.trans ((Below.refl _ _).alloc (by simp <;> omega) _) (hb.mono (by simp <;> omega)))
  clear hb
  have cG_0 : ∀ (i : Nat), w1.cell? ⟨w.heap.size, i, none⟩ = (#[.int .i64 x0, .int .i64 x1, .int .i64 x2] : Array Value)[i]? := Blk.cell G1.out
  have cG_1 : ∀ (o0 : Obj) (i : Nat), (w1.alloc o0).cell? ⟨w.heap.size, i, none⟩ = (#[.int .i64 x0, .int .i64 x1, .int .i64 x2] : Array Value)[i]? := fun _ => Blk.cell (Blk.alloc G1.out _)
  go_wp2_with fail
  refine (rTarget_any _ _ _ _ _).mono ?_
  rintro e w2 ⟨rfl, hb⟩
  have G2 := hid (Blk.below G1.out hb (Blk.lt G1.out))
  have B2 : Hid (Below w.heap.size w w2) := hid (Below.trans B1.out (hb.mono (Nat.le_trans B1.out.size (by simp <;> omega))))
  clear hb
  clear cG_0 cG_1
  have cG_0 : ∀ (i : Nat), w2.cell? ⟨w.heap.size, i, none⟩ = (#[.int .i64 x0, .int .i64 x1, .int .i64 x2] : Array Value)[i]? := Blk.cell G2.out
  have cG_1 : ∀ (o0 : Obj) (i : Nat), (w2.alloc o0).cell? ⟨w.heap.size, i, none⟩ = (#[.int .i64 x0, .int .i64 x1, .int .i64 x2] : Array Value)[i]? := fun _ => Blk.cell (Blk.alloc G2.out _)
  clear cG_0 cG_1
  go_wp2_with fail
  go_region_held3 (fun w' => (∀ i, w'.cell? ⟨w.heap.size, i, none⟩ = (#[.int .i64 x0, .int .i64 x1, .int .i64 x2] : Array Value)[i]?)) (first | exact Blk.cell G2.out | exact s3 | exact s4 | exact s5) (first
    | (go_at_call 14; refine (check_any _ _ _ _).mono ?_; rintro e w3 ⟨rfl, hb⟩; have G3 := hid (Blk.below (Blk.drew G2.out) hb (Blk.lt (Blk.drew G2.out))); have B3 : Hid (Below w.heap.size w w3) := hid (Below.trans (Below.drew B2.out) (hb.mono (Nat.le_trans B2.out.size (by simp <;> omega)))); clear hb; have s3 := G3.out.cell)
    | (go_at_call 15; refine (rcheck_any _ _ _ _).mono ?_; rintro e w4 ⟨rfl, hb⟩; have G4 := hid (Blk.below G3.out hb (Blk.lt G3.out)); have B4 : Hid (Below w.heap.size w w4) := hid (Below.trans B3.out (hb.mono (Nat.le_trans B3.out.size (by simp <;> omega)))); clear hb; have s4 := G4.out.cell)
    | (go_at_call 16; refine (awake_any _).mono ?_; rintro e w5 ⟨rfl, hb⟩; have G5 := hid (Blk.below G4.out hb (Blk.lt G4.out)); have B5 : Hid (Below w.heap.size w w5) := hid (Below.trans B4.out (hb.mono (Nat.le_trans B4.out.size (by simp <;> omega)))); clear hb; have s5 := G5.out.cell))
  go_wp2
  go_ret
  exact ⟨rfl, B5.out⟩
end Go.Proofs.Ytiphcdjfmihliaa
