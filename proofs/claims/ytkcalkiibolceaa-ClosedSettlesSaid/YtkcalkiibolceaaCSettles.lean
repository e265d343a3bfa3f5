/- ClosedSettles. -/
import Derived.Test.YtkcalkiibolceaaCl8
namespace Go.Proofs.Ytkcalkiibolceaa
open Go.RowKit

set_option maxHeartbeats 4000000 in
theorem closedSettles_walk (x0 : Int) (x1 : Int) (x2 : Int) (x3 : Int) (x4 : Int) (x5 : Int) (x6 : Int) (x7 : Int) (x8 : Int) (x9 : Int) (x10 : Int) (x11 : Int) (x12 : Int) (x13 : Int) (x14 : Int) (w : World) (_h0 : (Lit.int .i64 x0).wf = true) (_h1 : (Lit.int .i64 x1).wf = true) (_h2 : (Lit.int .i64 x2).wf = true) (_h3 : (Lit.int .i64 x3).wf = true) (_h4 : (Lit.int .i64 x4).wf = true) (_h5 : (Lit.int .i64 x5).wf = true) (_h6 : (Lit.int .i64 x6).wf = true) (_h7 : (Lit.int .i64 x7).wf = true) (_h8 : (Lit.int .i64 x8).wf = true) (_h9 : (Lit.int .i64 x9).wf = true) (_h10 : (Lit.int .i64 x10).wf = true) (_h11 : (Lit.int .i64 x11).wf = true) (_h12 : (Lit.int .i64 x12).wf = true) (_h13 : (Lit.int .i64 x13).wf = true) (_h14 : (Lit.int .i64 x14).wf = true) :
    Calls Try.prog 5 #[.agg #[.int .i64 x0, .int .i64 x1, .int .i64 x2, .int .i64 x3, .int .i64 x4, .int .i64 x5, .int .i64 x6, .int .i64 x7, .int .i64 x8], .int .i64 x9, .int .i64 x10, .int .i64 x11, .agg #[.int .i64 x12, .int .i64 x13, .int .i64 x14]] w fun e w' => e = .returned (.bool true) ∧ Below w.heap.size w w' := by
  go_enter Try.func5, Try.ntmps5
  go_wp2_with fail
  refine (settle_any x0 x1 x2 x3 x4 x5 x6 x7 x8 x9 x10 x11 x12 x13 x14 _).mono ?_
  rintro e w1 ⟨n, c, rfl, h1, hb⟩
  have C1 : Hid (Blk w1 (w.heap.size) 27 #[.int .i64 x0, .int .i64 x1, .int .i64 x2, .int .i64 x3, .int .i64 x4, .int .i64 x5, .int .i64 x6, .int .i64 x7, .int .i64 x8]) := hid (Blk.below (Blk.alloc (Blk.at_new _ (by simp)) _) hb (by simp <;> omega))
  have W1 : Hid (Blk w1 (w.heap.size + 1) 42 #[.int .i64 x12, .int .i64 x13, .int .i64 x14]) := hid (Blk.below (Blk.at_new _ (by simp)) hb (by simp <;> omega))
  have B1 : Hid (Below w.heap.size w w1) := hid (Below.trans (((Below.refl _ _).alloc (by simp <;> omega) _).alloc (by simp <;> omega) _) (hb.mono (by simp <;> omega)))
  clear hb
  have cC_0 : ∀ (i : Nat), w1.cell? ⟨w.heap.size, i, none⟩ = (#[.int .i64 x0, .int .i64 x1, .int .i64 x2, .int .i64 x3, .int .i64 x4, .int .i64 x5, .int .i64 x6, .int .i64 x7, .int .i64 x8] : Array Value)[i]? := Blk.cell C1.out
  have cC_1 : ∀ (o0 : Obj) (i : Nat), (w1.alloc o0).cell? ⟨w.heap.size, i, none⟩ = (#[.int .i64 x0, .int .i64 x1, .int .i64 x2, .int .i64 x3, .int .i64 x4, .int .i64 x5, .int .i64 x6, .int .i64 x7, .int .i64 x8] : Array Value)[i]? := fun _ => Blk.cell (Blk.alloc C1.out _)
  have cW_0 : ∀ (i : Nat), w1.cell? ⟨w.heap.size + 1, i, none⟩ = (#[.int .i64 x12, .int .i64 x13, .int .i64 x14] : Array Value)[i]? := Blk.cell W1.out
  have cW_1 : ∀ (o0 : Obj) (i : Nat), (w1.alloc o0).cell? ⟨w.heap.size + 1, i, none⟩ = (#[.int .i64 x12, .int .i64 x13, .int .i64 x14] : Array Value)[i]? := fun _ => Blk.cell (Blk.alloc W1.out _)
  have H1 := hid h1
  clear h1
  go_wp2_with fail
  refine (rsettle_any x0 x1 x2 x3 x4 x5 x6 x7 x8 x9 x10 x11 x12 x13 x14 _).mono ?_
  rintro e w2 ⟨n', c', rfl, h2, hb⟩
  have C2 := hid (Blk.below C1.out hb (Blk.lt C1.out))
  have W2 := hid (Blk.below W1.out hb (Blk.lt W1.out))
  have B2 : Hid (Below w.heap.size w w2) := hid (Below.trans B1.out (hb.mono (Nat.le_trans B1.out.size (by simp <;> omega))))
  clear hb
  clear cC_0 cC_1 cW_0 cW_1
  obtain ⟨rfl, rfl⟩ := st_one H1.out h2
  clear h2
  go_wp2_with (go_at_call 14; refine (awake_any _).mono ?_; rintro e v9 ⟨rfl, hb⟩)
  go_ret
  exact ⟨rfl, B2.out.trans (hb.mono B2.out.size)⟩
end Go.Proofs.Ytkcalkiibolceaa
