/- ControlChecks. -/
import Derived.Test.YthekpbkmoejgmaaLaw25
namespace Go.Proofs.Ythekpbkmoejgmaa
open Go.RowKit

set_option maxHeartbeats 1000000 in
theorem controlChecks_walk (x0 : Int) (x1 : Int) (x2 : Int) (x3 : Int) (x4 : Int) (x5 : Int) (x6 : Int) (w : World) (h0 : (Lit.int .i64 x0).wf = true) (h1 : (Lit.int .i64 x1).wf = true) (h2 : (Lit.int .i64 x2).wf = true) (h3 : (Lit.int .i64 x3).wf = true) (h4 : (Lit.int .i64 x4).wf = true) (h5 : (Lit.int .i64 x5).wf = true) (h6 : (Lit.int .i64 x6).wf = true) :
    Calls Try.prog 3 #[.agg #[.int .i64 x0, .int .i64 x1, .int .i64 x2, .int .i64 x3, .int .i64 x4, .int .i64 x5], .int .i64 x6] w fun e w' => e = .returned (.bool true) ∧ Below w.heap.size w w' := by
  clear h0 h1 h2 h3 h4 h5 h6
  go_enter Try.func3, Try.ntmps3
  go_wp2_with fail
  refine (start_c _ _ _ _ _ _ _ _).mono ?_
  rintro e w1 ⟨rfl, hb⟩
  have G1 := hid (Blk.below (Blk.new w 23 #[.int .i64 x0, .int .i64 x1, .int .i64 x2, .int .i64 x3, .int .i64 x4, .int .i64 x5]) hb (by simp))
  have B1 := hid (((Below.refl _ _).alloc (Nat.le_refl _) _).trans (hb.mono (by simp)))
  have cG : ∀ (o : Obj) (i : Nat), (w1.alloc o).cell? ⟨w.heap.size, i, none⟩ = (#[.int .i64 x0, .int .i64 x1, .int .i64 x2, .int .i64 x3, .int .i64 x4, .int .i64 x5] : Array Value)[i]? := fun o => (G1.out.alloc o).cell
  clear hb
  go_wp2_with fail
  refine (rstart_c _ _ _ _ _ _ _ _).mono ?_
  rintro e w2 ⟨rfl, hb⟩
  have G2 := hid (Blk.below (G1.out.alloc _) hb (Blk.lt (G1.out.alloc _)))
  have C2 := hid (Blk.below (Blk.new w1 25 #[.int .i64 (startOut x0 x1 x2 x3 x4 x5 x6), .int .i64 0]) hb (by simp))
  have B2 := hid ((B1.out.alloc B1.out.size _).trans (hb.mono (Nat.le_trans B1.out.size (by simp))))
  clear cG hb
  have cG : ∀ (o : Obj) (i : Nat), (w2.alloc o).cell? ⟨w.heap.size, i, none⟩ = (#[.int .i64 x0, .int .i64 x1, .int .i64 x2, .int .i64 x3, .int .i64 x4, .int .i64 x5] : Array Value)[i]? := fun o => (G2.out.alloc o).cell
  go_wp2_with fail
  refine (slow_c _ _ _ _ _ _ _).mono ?_
  rintro e w3 ⟨rfl, hb⟩
  have G3 := hid (Blk.below (G2.out.alloc _) hb (Blk.lt (G2.out.alloc _)))
  have C3 := hid (Blk.below (C2.out.alloc _) hb (Blk.lt (C2.out.alloc _)))
  have D3 := hid (Blk.below (Blk.new w2 25 #[.int .i64 (startOut x0 x1 x2 x3 x4 x5 x6), .int .i64 0]) hb (by simp))
  have B3 := hid ((B2.out.alloc B2.out.size _).trans (hb.mono (Nat.le_trans B2.out.size (by simp))))
  clear cG hb
  have cG := G3.out.cell
  go_wp2_with fail
  refine (rslow_c _ _ _ _ _ _ _).mono ?_
  rintro e w4 ⟨rfl, hb⟩
  have G4 := hid (Blk.below G3.out hb (Blk.lt G3.out))
  have C4 := hid (Blk.below C3.out hb (Blk.lt C3.out))
  have D4 := hid (Blk.below D3.out hb (Blk.lt D3.out))
  have B4 := hid (B3.out.trans (hb.mono B3.out.size))
  clear cG hb
  go_wp2_with fail
  go_region_held3 (fun w' => (∀ i, w'.cell? ⟨w.heap.size, i, none⟩ = (#[.int .i64 x0, .int .i64 x1, .int .i64 x2, .int .i64 x3, .int .i64 x4, .int .i64 x5] : Array Value)[i]?) ∧ (∀ i, w'.cell? ⟨w1.heap.size, i, none⟩ = (#[.int .i64 (startOut x0 x1 x2 x3 x4 x5 x6), .int .i64 0] : Array Value)[i]?) ∧ (∀ i, w'.cell? ⟨w2.heap.size, i, none⟩ = (#[.int .i64 (startOut x0 x1 x2 x3 x4 x5 x6), .int .i64 0] : Array Value)[i]?)) (first | exact ⟨G4.out.cell, C4.out.cell, D4.out.cell⟩ | exact s1 | exact s2 | exact s3) (first
    | (go_at_call 14; refine (check_any _ _ _ _ _ _ _).mono ?_; rintro e w5 ⟨rfl, hb⟩; have G5 := hid (Blk.below G4.out.drew hb (Blk.lt G4.out.drew)); have C5 := hid (Blk.below C4.out.drew hb (Blk.lt C4.out.drew)); have D5 := hid (Blk.below D4.out.drew hb (Blk.lt D4.out.drew)); have s1 := And.intro G5.out.cell (And.intro C5.out.cell D5.out.cell); have B5 := hid (B4.out.drew.trans (hb.mono B4.out.size)); clear hb)
    | (go_at_call 15; refine (rcheck_any _ _ _ _ _ _ _).mono ?_; rintro e w6 ⟨rfl, hb⟩; have G6 := hid (Blk.below G5.out hb (Blk.lt G5.out)); have C6 := hid (Blk.below C5.out hb (Blk.lt C5.out)); have D6 := hid (Blk.below D5.out hb (Blk.lt D5.out)); have s2 := And.intro G6.out.cell (And.intro C6.out.cell D6.out.cell); have B6 := hid (B5.out.trans (hb.mono B5.out.size)); clear hb)
    | (go_at_call 16; refine (awake_any _).mono ?_; rintro e w7 ⟨rfl, hb⟩; have s3 := And.intro (Blk.below G6.out hb (Blk.lt G6.out)).cell (And.intro (Blk.below C6.out hb (Blk.lt C6.out)).cell (Blk.below D6.out hb (Blk.lt D6.out)).cell); have B7 := hid (B6.out.trans (hb.mono B6.out.size)); clear hb))
  go_wp2
  go_ret
  exact ⟨rfl, B7.out⟩
end Go.Proofs.Ythekpbkmoejgmaa
