/- ControlSteps. -/
import Derived.Test.YthekpbkmoejgmaaLaw25
namespace Go.Proofs.Ythekpbkmoejgmaa
open Go.RowKit

set_option maxHeartbeats 1000000 in
theorem controlSteps_walk (x0 : Int) (x1 : Int) (x2 : Int) (x3 : Int) (x4 : Int) (x5 : Int) (x6 : Int) (x7 : Int) (x8 : Int) (x9 : Int) (w : World) (_h0 : (Lit.int .i64 x0).wf = true) (_h1 : (Lit.int .i64 x1).wf = true) (_h2 : (Lit.int .i64 x2).wf = true) (_h3 : (Lit.int .i64 x3).wf = true) (_h4 : (Lit.int .i64 x4).wf = true) (_h5 : (Lit.int .i64 x5).wf = true) (_h6 : (Lit.int .i64 x6).wf = true) (_h7 : (Lit.int .i64 x7).wf = true) (_h8 : (Lit.int .i64 x8).wf = true) (_h9 : (Lit.int .i64 x9).wf = true) :
    Calls Try.prog 4 #[.agg #[.int .i64 x0, .int .i64 x1, .int .i64 x2, .int .i64 x3, .int .i64 x4, .int .i64 x5], .agg #[.int .i64 x6, .int .i64 x7], .agg #[.int .i64 x8, .int .i64 x9]] w fun e w' => e = .returned (.bool true) ∧ Below w.heap.size w w' := by
  go_enter Try.func4, Try.ntmps4
  go_wp2_with fail
  refine (step_c _ _ _ _ _ _ _ _ _ _ _).mono ?_
  rintro e w1 ⟨rfl, hb⟩
  have G1 : Hid (Blk w1 (w.heap.size) 23 #[.int .i64 x0, .int .i64 x1, .int .i64 x2, .int .i64 x3, .int .i64 x4, .int .i64 x5]) := hid (Blk.below (Blk.alloc (Blk.alloc (Blk.at_new _ (by simp)) _) _) hb (by simp <;> omega))
  have C1 : Hid (Blk w1 (w.heap.size + 1) 25 #[.int .i64 x6, .int .i64 x7]) := hid (Blk.below (Blk.alloc (Blk.at_new _ (by simp)) _) hb (by simp <;> omega))
  have X1 : Hid (Blk w1 (w.heap.size + 1 + 1) 35 #[.int .i64 x8, .int .i64 x9]) := hid (Blk.below (Blk.at_new _ (by simp)) hb (by simp <;> omega))
  have B1 : Hid (Below w.heap.size w w1) := hid (Below.trans ((((Below.refl _ _).alloc (by simp <;> omega) _).alloc (by simp <;> omega) _).alloc (by simp <;> omega) _) (hb.mono (by simp <;> omega)))
  clear hb
  have cG_0 : ∀ (i : Nat), w1.cell? ⟨w.heap.size, i, none⟩ = (#[.int .i64 x0, .int .i64 x1, .int .i64 x2, .int .i64 x3, .int .i64 x4, .int .i64 x5] : Array Value)[i]? := Blk.cell G1.out
  have cG_1 : ∀ (o0 : Obj) (i : Nat), (w1.alloc o0).cell? ⟨w.heap.size, i, none⟩ = (#[.int .i64 x0, .int .i64 x1, .int .i64 x2, .int .i64 x3, .int .i64 x4, .int .i64 x5] : Array Value)[i]? := fun _ => Blk.cell (Blk.alloc G1.out _)
  have cC_0 : ∀ (i : Nat), w1.cell? ⟨w.heap.size + 1, i, none⟩ = (#[.int .i64 x6, .int .i64 x7] : Array Value)[i]? := Blk.cell C1.out
  have cC_1 : ∀ (o0 : Obj) (i : Nat), (w1.alloc o0).cell? ⟨w.heap.size + 1, i, none⟩ = (#[.int .i64 x6, .int .i64 x7] : Array Value)[i]? := fun _ => Blk.cell (Blk.alloc C1.out _)
  have cX_0 : ∀ (i : Nat), w1.cell? ⟨w.heap.size + 1 + 1, i, none⟩ = (#[.int .i64 x8, .int .i64 x9] : Array Value)[i]? := Blk.cell X1.out
  have cX_1 : ∀ (o0 : Obj) (i : Nat), (w1.alloc o0).cell? ⟨w.heap.size + 1 + 1, i, none⟩ = (#[.int .i64 x8, .int .i64 x9] : Array Value)[i]? := fun _ => Blk.cell (Blk.alloc X1.out _)
  go_wp2_with fail
  refine (rstep_c _ _ _ _ _ _ _ _ _ _ _).mono ?_
  rintro e w2 ⟨rfl, hb⟩
  have G2 := hid (Blk.below (Blk.alloc G1.out _) hb (Blk.lt (Blk.alloc G1.out _)))
  have C2 := hid (Blk.below (Blk.alloc C1.out _) hb (Blk.lt (Blk.alloc C1.out _)))
  have X2 := hid (Blk.below (Blk.alloc X1.out _) hb (Blk.lt (Blk.alloc X1.out _)))
  have P2 : Hid (Blk w2 (w1.heap.size) 25 #[.int .i64 (nextOut x0 x1 x2 x3 x4 x5 x6 x7 x8 x9), .int .i64 (nextLast x0 x1 x2 x3 x4 x5 x6 x7 x8 x9)]) := hid (Blk.below (Blk.at_new _ (by simp)) hb (by simp <;> omega))
  have B2 : Hid (Below w.heap.size w w2) := hid (Below.trans (Below.alloc B1.out (Nat.le_trans B1.out.size (by simp <;> omega)) _) (hb.mono (Nat.le_trans B1.out.size (by simp <;> omega))))
  clear hb
  clear cG_0 cG_1 cC_0 cC_1 cX_0 cX_1
  have cG_0 : ∀ (i : Nat), w2.cell? ⟨w.heap.size, i, none⟩ = (#[.int .i64 x0, .int .i64 x1, .int .i64 x2, .int .i64 x3, .int .i64 x4, .int .i64 x5] : Array Value)[i]? := Blk.cell G2.out
  have cG_1 : ∀ (o0 : Obj) (i : Nat), (w2.alloc o0).cell? ⟨w.heap.size, i, none⟩ = (#[.int .i64 x0, .int .i64 x1, .int .i64 x2, .int .i64 x3, .int .i64 x4, .int .i64 x5] : Array Value)[i]? := fun _ => Blk.cell (Blk.alloc G2.out _)
  have cC_0 : ∀ (i : Nat), w2.cell? ⟨w.heap.size + 1, i, none⟩ = (#[.int .i64 x6, .int .i64 x7] : Array Value)[i]? := Blk.cell C2.out
  have cC_1 : ∀ (o0 : Obj) (i : Nat), (w2.alloc o0).cell? ⟨w.heap.size + 1, i, none⟩ = (#[.int .i64 x6, .int .i64 x7] : Array Value)[i]? := fun _ => Blk.cell (Blk.alloc C2.out _)
  have cX_0 : ∀ (i : Nat), w2.cell? ⟨w.heap.size + 1 + 1, i, none⟩ = (#[.int .i64 x8, .int .i64 x9] : Array Value)[i]? := Blk.cell X2.out
  have cX_1 : ∀ (o0 : Obj) (i : Nat), (w2.alloc o0).cell? ⟨w.heap.size + 1 + 1, i, none⟩ = (#[.int .i64 x8, .int .i64 x9] : Array Value)[i]? := fun _ => Blk.cell (Blk.alloc X2.out _)
  have cP_0 : ∀ (i : Nat), w2.cell? ⟨w1.heap.size, i, none⟩ = (#[.int .i64 (nextOut x0 x1 x2 x3 x4 x5 x6 x7 x8 x9), .int .i64 (nextLast x0 x1 x2 x3 x4 x5 x6 x7 x8 x9)] : Array Value)[i]? := Blk.cell P2.out
  have cP_1 : ∀ (o0 : Obj) (i : Nat), (w2.alloc o0).cell? ⟨w1.heap.size, i, none⟩ = (#[.int .i64 (nextOut x0 x1 x2 x3 x4 x5 x6 x7 x8 x9), .int .i64 (nextLast x0 x1 x2 x3 x4 x5 x6 x7 x8 x9)] : Array Value)[i]? := fun _ => Blk.cell (Blk.alloc P2.out _)
  clear cG_0 cG_1 cC_0 cC_1 cX_0 cX_1 cP_0 cP_1
  go_wp2_with fail
  go_region_held3 (fun w' => (∀ i, w'.cell? ⟨w.heap.size, i, none⟩ = (#[.int .i64 x0, .int .i64 x1, .int .i64 x2, .int .i64 x3, .int .i64 x4, .int .i64 x5] : Array Value)[i]?) ∧ (∀ i, w'.cell? ⟨w.heap.size + 1, i, none⟩ = (#[.int .i64 x6, .int .i64 x7] : Array Value)[i]?) ∧ (∀ i, w'.cell? ⟨w.heap.size + 1 + 1, i, none⟩ = (#[.int .i64 x8, .int .i64 x9] : Array Value)[i]?) ∧ (∀ i, w'.cell? ⟨w1.heap.size, i, none⟩ = (#[.int .i64 (nextOut x0 x1 x2 x3 x4 x5 x6 x7 x8 x9), .int .i64 (nextLast x0 x1 x2 x3 x4 x5 x6 x7 x8 x9)] : Array Value)[i]?) ∧ (∀ i, w'.cell? ⟨w2.heap.size, i, none⟩ = (#[.int .i64 (nextOut x0 x1 x2 x3 x4 x5 x6 x7 x8 x9), .int .i64 (nextLast x0 x1 x2 x3 x4 x5 x6 x7 x8 x9)] : Array Value)[i]?)) (first | exact And.intro (Blk.cell (Blk.alloc G2.out _)) (And.intro (Blk.cell (Blk.alloc C2.out _)) (And.intro (Blk.cell (Blk.alloc X2.out _)) (And.intro (Blk.cell (Blk.alloc P2.out _)) (Blk.cell (Blk.at_new _ (by simp)))))) | exact s3 | exact s4 | exact s5) (first
    | (go_at_call 19; refine (settled_any _ _ _ _ _ _ _ _ _ _ _).mono ?_; rintro e w3 ⟨rfl, hb⟩; have G3 := hid (Blk.below (Blk.drew (Blk.alloc G2.out _)) hb (Blk.lt (Blk.drew (Blk.alloc G2.out _)))); have C3 := hid (Blk.below (Blk.drew (Blk.alloc C2.out _)) hb (Blk.lt (Blk.drew (Blk.alloc C2.out _)))); have X3 := hid (Blk.below (Blk.drew (Blk.alloc X2.out _)) hb (Blk.lt (Blk.drew (Blk.alloc X2.out _)))); have P3 := hid (Blk.below (Blk.drew (Blk.alloc P2.out _)) hb (Blk.lt (Blk.drew (Blk.alloc P2.out _)))); have Q3 : Hid (Blk w3 (w2.heap.size) 25 #[.int .i64 (nextOut x0 x1 x2 x3 x4 x5 x6 x7 x8 x9), .int .i64 (nextLast x0 x1 x2 x3 x4 x5 x6 x7 x8 x9)]) := hid (Blk.below (Blk.drew (Blk.at_new _ (by simp))) hb (by simp <;> omega)); have B3 : Hid (Below w.heap.size w w3) := hid (Below.trans (Below.drew (Below.alloc B2.out (Nat.le_trans B2.out.size (by simp <;> omega)) _)) (hb.mono (Nat.le_trans B2.out.size (by simp <;> omega)))); clear hb; have s3 := And.intro (G3.out.cell) (And.intro (C3.out.cell) (And.intro (X3.out.cell) (And.intro (P3.out.cell) (Q3.out.cell)))))
    | (go_at_call 20; refine (rsettled_any _ _ _ _ _ _ _ _ _ _ _).mono ?_; rintro e w4 ⟨rfl, hb⟩; have G4 := hid (Blk.below G3.out hb (Blk.lt G3.out)); have C4 := hid (Blk.below C3.out hb (Blk.lt C3.out)); have X4 := hid (Blk.below X3.out hb (Blk.lt X3.out)); have P4 := hid (Blk.below P3.out hb (Blk.lt P3.out)); have Q4 := hid (Blk.below Q3.out hb (Blk.lt Q3.out)); have B4 : Hid (Below w.heap.size w w4) := hid (Below.trans B3.out (hb.mono (Nat.le_trans B3.out.size (by simp <;> omega)))); clear hb; have s4 := And.intro (G4.out.cell) (And.intro (C4.out.cell) (And.intro (X4.out.cell) (And.intro (P4.out.cell) (Q4.out.cell)))))
    | (go_at_call 16; refine (awake_any _).mono ?_; rintro e w5 ⟨rfl, hb⟩; have G5 := hid (Blk.below G4.out hb (Blk.lt G4.out)); have C5 := hid (Blk.below C4.out hb (Blk.lt C4.out)); have X5 := hid (Blk.below X4.out hb (Blk.lt X4.out)); have P5 := hid (Blk.below P4.out hb (Blk.lt P4.out)); have Q5 := hid (Blk.below Q4.out hb (Blk.lt Q4.out)); have B5 : Hid (Below w.heap.size w w5) := hid (Below.trans B4.out (hb.mono (Nat.le_trans B4.out.size (by simp <;> omega)))); clear hb; have s5 := And.intro (G5.out.cell) (And.intro (C5.out.cell) (And.intro (X5.out.cell) (And.intro (P5.out.cell) (Q5.out.cell))))))
  go_wp2
  go_ret
  exact ⟨rfl, B5.out⟩
end Go.Proofs.Ythekpbkmoejgmaa
