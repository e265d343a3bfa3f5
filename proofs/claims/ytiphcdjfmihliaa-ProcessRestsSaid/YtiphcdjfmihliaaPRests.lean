/- ProcessRests. -/
import Derived.Test.YtiphcdjfmihliaaLaw26
namespace Go.Proofs.Ytiphcdjfmihliaa
open Go.RowKit

set_option maxHeartbeats 1000000 in
theorem processRests_walk (x0 : Int) (x1 : Int) (x2 : Int) (x3 : Int) (x4 : Int) (x5 : Int) (x6 : Int) (w : World) (_h0 : (Lit.int .i64 x0).wf = true) (_h1 : (Lit.int .i64 x1).wf = true) (_h2 : (Lit.int .i64 x2).wf = true) (_h3 : (Lit.int .i64 x3).wf = true) (_h4 : (Lit.int .i64 x4).wf = true) (_h5 : (Lit.int .i64 x5).wf = true) (_h6 : (Lit.int .i64 x6).wf = true) :
    Calls Try.prog 5 #[.agg #[.int .i64 x0, .int .i64 x1, .int .i64 x2], .agg #[.int .i64 x3, .int .i64 x4, .int .i64 x5, .int .i64 x6]] w fun e w' => e = .returned (.bool true) ∧ Below w.heap.size w w' := by
  go_enter Try.func5, Try.ntmps5
  go_wp2_with fail
  refine (bounds_any _ _ _ _ _ _ _).mono ?_
  rintro e w1 ⟨rfl, hb⟩
  have G1 : Hid (Blk w1 (w.heap.size) 23 #[.int .i64 x0, .int .i64 x1, .int .i64 x2]) := hid (Blk.below (Blk.alloc (Blk.at_new _ (by simp)) _) hb (by simp <;> omega))
  have X1 : Hid (Blk w1 (w.heap.size + 1) 41 #[.int .i64 x3, .int .i64 x4, .int .i64 x5, .int .i64 x6]) := hid (Blk.below (Blk.at_new _ (by simp)) hb (by simp <;> omega))
  have B1 : Hid (Below w.heap.size w w1) := hid (Below.trans (((Below.refl _ _).alloc (by simp <;> omega) _).alloc (by simp <;> omega) _) (hb.mono (by simp <;> omega)))
  clear hb
  have cG_0 : ∀ (i : Nat), w1.cell? ⟨w.heap.size, i, none⟩ = (#[.int .i64 x0, .int .i64 x1, .int .i64 x2] : Array Value)[i]? := Blk.cell G1.out
  have cG_1 : ∀ (o0 : Obj) (i : Nat), (w1.alloc o0).cell? ⟨w.heap.size, i, none⟩ = (#[.int .i64 x0, .int .i64 x1, .int .i64 x2] : Array Value)[i]? := fun _ => Blk.cell (Blk.alloc G1.out _)
  have cX_0 : ∀ (i : Nat), w1.cell? ⟨w.heap.size + 1, i, none⟩ = (#[.int .i64 x3, .int .i64 x4, .int .i64 x5, .int .i64 x6] : Array Value)[i]? := Blk.cell X1.out
  have cX_1 : ∀ (o0 : Obj) (i : Nat), (w1.alloc o0).cell? ⟨w.heap.size + 1, i, none⟩ = (#[.int .i64 x3, .int .i64 x4, .int .i64 x5, .int .i64 x6] : Array Value)[i]? := fun _ => Blk.cell (Blk.alloc X1.out _)
  go_wp2_with fail
  refine (rbounds_any _ _ _ _ _ _ _).mono ?_
  rintro e w2 ⟨rfl, hb⟩
  have G2 := hid (Blk.below G1.out hb (Blk.lt G1.out))
  have X2 := hid (Blk.below X1.out hb (Blk.lt X1.out))
  have B2 : Hid (Below w.heap.size w w2) := hid (Below.trans B1.out (hb.mono (Nat.le_trans B1.out.size (by simp <;> omega))))
  clear hb
  clear cG_0 cG_1 cX_0 cX_1
  have cG_0 : ∀ (i : Nat), w2.cell? ⟨w.heap.size, i, none⟩ = (#[.int .i64 x0, .int .i64 x1, .int .i64 x2] : Array Value)[i]? := Blk.cell G2.out
  have cG_1 : ∀ (o0 : Obj) (i : Nat), (w2.alloc o0).cell? ⟨w.heap.size, i, none⟩ = (#[.int .i64 x0, .int .i64 x1, .int .i64 x2] : Array Value)[i]? := fun _ => Blk.cell (Blk.alloc G2.out _)
  have cX_0 : ∀ (i : Nat), w2.cell? ⟨w.heap.size + 1, i, none⟩ = (#[.int .i64 x3, .int .i64 x4, .int .i64 x5, .int .i64 x6] : Array Value)[i]? := Blk.cell X2.out
  have cX_1 : ∀ (o0 : Obj) (i : Nat), (w2.alloc o0).cell? ⟨w.heap.size + 1, i, none⟩ = (#[.int .i64 x3, .int .i64 x4, .int .i64 x5, .int .i64 x6] : Array Value)[i]? := fun _ => Blk.cell (Blk.alloc X2.out _)
  go_wp2_with fail
  refine (rest_any _ _ _ _ _ _ _).mono ?_
  rintro e w3 ⟨n, rfl, n1, n2, hb⟩
  have G3 := hid (Blk.below G2.out hb (Blk.lt G2.out))
  have X3 := hid (Blk.below X2.out hb (Blk.lt X2.out))
  have B3 : Hid (Below w.heap.size w w3) := hid (Below.trans B2.out (hb.mono (Nat.le_trans B2.out.size (by simp <;> omega))))
  clear hb
  clear cG_0 cG_1 cX_0 cX_1
  have cG_0 : ∀ (i : Nat), w3.cell? ⟨w.heap.size, i, none⟩ = (#[.int .i64 x0, .int .i64 x1, .int .i64 x2] : Array Value)[i]? := Blk.cell G3.out
  have cG_1 : ∀ (o0 : Obj) (i : Nat), (w3.alloc o0).cell? ⟨w.heap.size, i, none⟩ = (#[.int .i64 x0, .int .i64 x1, .int .i64 x2] : Array Value)[i]? := fun _ => Blk.cell (Blk.alloc G3.out _)
  have cX_0 : ∀ (i : Nat), w3.cell? ⟨w.heap.size + 1, i, none⟩ = (#[.int .i64 x3, .int .i64 x4, .int .i64 x5, .int .i64 x6] : Array Value)[i]? := Blk.cell X3.out
  have cX_1 : ∀ (o0 : Obj) (i : Nat), (w3.alloc o0).cell? ⟨w.heap.size + 1, i, none⟩ = (#[.int .i64 x3, .int .i64 x4, .int .i64 x5, .int .i64 x6] : Array Value)[i]? := fun _ => Blk.cell (Blk.alloc X3.out _)
  go_wp2_with fail
  refine (rrest_any _ _ _ _ _ _ _).mono ?_
  rintro e w4 ⟨m, rfl, m1, m2, hb⟩
  have G4 := hid (Blk.below G3.out hb (Blk.lt G3.out))
  have X4 := hid (Blk.below X3.out hb (Blk.lt X3.out))
  have B4 : Hid (Below w.heap.size w w4) := hid (Below.trans B3.out (hb.mono (Nat.le_trans B3.out.size (by simp <;> omega))))
  clear hb
  clear cG_0 cG_1 cX_0 cX_1
  have cG_0 : ∀ (i : Nat), w4.cell? ⟨w.heap.size, i, none⟩ = (#[.int .i64 x0, .int .i64 x1, .int .i64 x2] : Array Value)[i]? := Blk.cell G4.out
  have cG_1 : ∀ (o0 : Obj) (i : Nat), (w4.alloc o0).cell? ⟨w.heap.size, i, none⟩ = (#[.int .i64 x0, .int .i64 x1, .int .i64 x2] : Array Value)[i]? := fun _ => Blk.cell (Blk.alloc G4.out _)
  have cX_0 : ∀ (i : Nat), w4.cell? ⟨w.heap.size + 1, i, none⟩ = (#[.int .i64 x3, .int .i64 x4, .int .i64 x5, .int .i64 x6] : Array Value)[i]? := Blk.cell X4.out
  have cX_1 : ∀ (o0 : Obj) (i : Nat), (w4.alloc o0).cell? ⟨w.heap.size + 1, i, none⟩ = (#[.int .i64 x3, .int .i64 x4, .int .i64 x5, .int .i64 x6] : Array Value)[i]? := fun _ => Blk.cell (Blk.alloc X4.out _)
  have hnm : n = m := by
    by_cases hz : restErr x0 x1 x2 x3 x4 x6 = 0
    · exact rest_one (n1 hz) (m1 hz)
    · rw [n2 hz, m2 hz]
  subst hnm
  clear n1 n2 m1 m2
  go_wp2_with fail
  refine (awake_any _).mono ?_
  rintro e w5 ⟨rfl, hb⟩
  have G5 := hid (Blk.below G4.out hb (Blk.lt G4.out))
  have X5 := hid (Blk.below X4.out hb (Blk.lt X4.out))
  have B5 : Hid (Below w.heap.size w w5) := hid (Below.trans B4.out (hb.mono (Nat.le_trans B4.out.size (by simp <;> omega))))
  clear hb
  clear cG_0 cG_1 cX_0 cX_1
  go_wp2
  go_ret
  exact ⟨rfl, B5.out⟩
end Go.Proofs.Ytiphcdjfmihliaa
