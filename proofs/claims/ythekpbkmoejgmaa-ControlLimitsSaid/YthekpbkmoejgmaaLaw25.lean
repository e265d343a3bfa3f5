/- Chapter 25: what the laws share. -/
import Derived.Test.YthekpbkmoejgmaaRStep
namespace Go.Proofs.Ythekpbkmoejgmaa
open Go.RowKit

theorem gains_any (w : World) : Calls Try.prog 24 #[] w fun e w' => e = .returned (.agg #[.int .i64 8, .int .i64 2, .int .i64 2, .int .i64 0, .int .i64 100, .int .i64 10]) ∧ Below w.heap.size w w' := by
  go_enter Try.func24, Try.ntmps24
  go_wp2
  go_returns
  exact ⟨rfl, (Below.refl _ _).alloc (Nat.le_refl _) _⟩

theorem aw_start (w : World) : Calls Try.prog 10 #[.agg #[.int .i64 8, .int .i64 2, .int .i64 2, .int .i64 0, .int .i64 100, .int .i64 10], .int .i64 50] w fun e w' => e = .returned (.tuple #[.agg #[.int .i64 50, .int .i64 0], .int .i64 0]) ∧ Below w.heap.size w w' :=
  (start_any 8 2 2 0 100 10 50 w).mono fun _ _ h => ⟨h.1.trans (congrArg Ending.returned rfl), h.2⟩
theorem aw_slow (w : World) : Calls Try.prog 12 #[.agg #[.int .i64 8, .int .i64 2, .int .i64 2, .int .i64 0, .int .i64 100, .int .i64 10]] w fun e w' => e = .returned (.tuple #[.int .i64 10, .int .i64 0]) ∧ Below w.heap.size w w' :=
  (slowest_any 8 2 2 0 100 10 w).mono fun _ _ h => ⟨h.1.trans (congrArg Ending.returned rfl), h.2⟩
theorem aw_step0 (w : World) : Calls Try.prog 17 #[.agg #[.int .i64 8, .int .i64 2, .int .i64 2, .int .i64 0, .int .i64 100, .int .i64 10], .agg #[.int .i64 50, .int .i64 0], .int .i64 5, .int .i64 3] w fun e w' => e = .returned (.tuple #[.agg #[.int .i64 55, .int .i64 2], .int .i64 0]) ∧ Below w.heap.size w w' :=
  (step_any 8 2 2 0 100 10 50 0 5 3 w).mono fun _ _ h => ⟨h.1.trans (congrArg Ending.returned rfl), h.2⟩
theorem aw_step1 (w : World) : Calls Try.prog 17 #[.agg #[.int .i64 8, .int .i64 2, .int .i64 2, .int .i64 0, .int .i64 100, .int .i64 10], .agg #[.int .i64 55, .int .i64 2], .int .i64 5, .int .i64 6] w fun e w' => e = .returned (.tuple #[.agg #[.int .i64 48, .int .i64 (-1)], .int .i64 0]) ∧ Below w.heap.size w w' :=
  (step_any 8 2 2 0 100 10 55 2 5 6 w).mono fun _ _ h => ⟨h.1.trans (congrArg Ending.returned rfl), h.2⟩
theorem aw_step2 (w : World) : Calls Try.prog 17 #[.agg #[.int .i64 8, .int .i64 2, .int .i64 2, .int .i64 0, .int .i64 100, .int .i64 10], .agg #[.int .i64 97, .int .i64 0], .int .i64 40, .int .i64 0] w fun e w' => e = .returned (.tuple #[.agg #[.int .i64 100, .int .i64 40], .int .i64 0]) ∧ Below w.heap.size w w' :=
  (step_any 8 2 2 0 100 10 97 0 40 0 w).mono fun _ _ h => ⟨h.1.trans (congrArg Ending.returned rfl), h.2⟩
theorem aw_set0 (w : World) : Calls Try.prog 19 #[.agg #[.int .i64 8, .int .i64 2, .int .i64 2, .int .i64 0, .int .i64 100, .int .i64 10], .agg #[.int .i64 50, .int .i64 0], .int .i64 7, .int .i64 7] w fun e w' => e = .returned (.bool true) ∧ Below w.heap.size w w' :=
  (settled_any 8 2 2 0 100 10 50 0 7 7 w).mono fun _ _ h => ⟨h.1.trans (congrArg Ending.returned rfl), h.2⟩
theorem aw_set1 (w : World) : Calls Try.prog 19 #[.agg #[.int .i64 8, .int .i64 2, .int .i64 2, .int .i64 0, .int .i64 100, .int .i64 10], .agg #[.int .i64 50, .int .i64 2], .int .i64 7, .int .i64 7] w fun e w' => e = .returned (.bool false) ∧ Below w.heap.size w w' :=
  (settled_any 8 2 2 0 100 10 50 2 7 7 w).mono fun _ _ h => ⟨h.1.trans (congrArg Ending.returned rfl), h.2⟩

set_option maxHeartbeats 1000000 in
theorem awake_any (w : World) : Calls Try.prog 16 #[] w fun e w' => e = .returned (.bool true) ∧ Below w.heap.size w w' := by
  go_enter Try.func16, Try.ntmps16
  go_wp2_with fail
  refine (gains_any _).mono ?_
  rintro e w1 ⟨rfl, hb1⟩
  have B1 := hid hb1
  clear hb1
  go_wp2_with fail
  refine (aw_start _).mono ?_
  rintro e w2 ⟨rfl, hb⟩
  have G2 := hid (Blk.below (Blk.new w1 23 #[.int .i64 8, .int .i64 2, .int .i64 2, .int .i64 0, .int .i64 100, .int .i64 10]) hb (by simp))
  have cG : ∀ (o : Obj) (i : Nat), (w2.alloc o).cell? ⟨w1.heap.size, i, none⟩ = (#[.int .i64 8, .int .i64 2, .int .i64 2, .int .i64 0, .int .i64 100, .int .i64 10] : Array Value)[i]? := fun o => (G2.out.alloc o).cell
  have B2 := hid ((B1.out.alloc B1.out.size _).trans (hb.mono (Nat.le_trans B1.out.size (by simp))))
  clear hb
  go_wp2_with fail
  refine (aw_step0 _).mono ?_
  rintro e w3 ⟨rfl, hb⟩
  have G3 := hid (Blk.below (G2.out.alloc _) hb (Blk.lt (G2.out.alloc _)))
  have C3 := hid (Blk.below (Blk.new w2 25 #[.int .i64 50, .int .i64 0]) hb (by simp))
  clear cG
  have cG : ∀ (o : Obj) (i : Nat), (w3.alloc o).cell? ⟨w1.heap.size, i, none⟩ = (#[.int .i64 8, .int .i64 2, .int .i64 2, .int .i64 0, .int .i64 100, .int .i64 10] : Array Value)[i]? := fun o => (G3.out.alloc o).cell
  have cC : ∀ (o : Obj) (i : Nat), (w3.alloc o).cell? ⟨w2.heap.size, i, none⟩ = (#[.int .i64 50, .int .i64 0] : Array Value)[i]? := fun o => (C3.out.alloc o).cell
  have B3 := hid ((B2.out.alloc B2.out.size _).trans (hb.mono (Nat.le_trans B2.out.size (by simp))))
  clear hb
  go_wp2_with fail
  refine (aw_step1 _).mono ?_
  rintro e w4 ⟨rfl, hb⟩
  have G4 := hid (Blk.below (G3.out.alloc _) hb (Blk.lt (G3.out.alloc _)))
  have C4 := hid (Blk.below (C3.out.alloc _) hb (Blk.lt (C3.out.alloc _)))
  have P4 := hid (Blk.below (Blk.new w3 25 #[.int .i64 55, .int .i64 2]) hb (by simp))
  clear cG cC
  have cG : ∀ (o : Obj) (i : Nat), (w4.alloc o).cell? ⟨w1.heap.size, i, none⟩ = (#[.int .i64 8, .int .i64 2, .int .i64 2, .int .i64 0, .int .i64 100, .int .i64 10] : Array Value)[i]? := fun o => (G4.out.alloc o).cell
  have cC : ∀ (o : Obj) (i : Nat), (w4.alloc o).cell? ⟨w2.heap.size, i, none⟩ = (#[.int .i64 50, .int .i64 0] : Array Value)[i]? := fun o => (C4.out.alloc o).cell
  have cP : ∀ (o : Obj) (i : Nat), (w4.alloc o).cell? ⟨w3.heap.size, i, none⟩ = (#[.int .i64 55, .int .i64 2] : Array Value)[i]? := fun o => (P4.out.alloc o).cell
  have B4 := hid ((B3.out.alloc B3.out.size _).trans (hb.mono (Nat.le_trans B3.out.size (by simp))))
  clear hb
  go_wp2_with fail
  refine (aw_step2 _).mono ?_
  rintro e w5 ⟨rfl, hb⟩
  have G5 := hid (Blk.below (G4.out.alloc _) hb (Blk.lt (G4.out.alloc _)))
  have C5 := hid (Blk.below (C4.out.alloc _) hb (Blk.lt (C4.out.alloc _)))
  have P5 := hid (Blk.below (P4.out.alloc _) hb (Blk.lt (P4.out.alloc _)))
  have Q5 := hid (Blk.below (Blk.new w4 25 #[.int .i64 48, .int .i64 (-1)]) hb (by simp))
  clear cG cC cP
  have cG : ∀ (o : Obj) (i : Nat), (w5.alloc o).cell? ⟨w1.heap.size, i, none⟩ = (#[.int .i64 8, .int .i64 2, .int .i64 2, .int .i64 0, .int .i64 100, .int .i64 10] : Array Value)[i]? := fun o => (G5.out.alloc o).cell
  have cC : ∀ (o : Obj) (i : Nat), (w5.alloc o).cell? ⟨w2.heap.size, i, none⟩ = (#[.int .i64 50, .int .i64 0] : Array Value)[i]? := fun o => (C5.out.alloc o).cell
  have cP : ∀ (o : Obj) (i : Nat), (w5.alloc o).cell? ⟨w3.heap.size, i, none⟩ = (#[.int .i64 55, .int .i64 2] : Array Value)[i]? := fun o => (P5.out.alloc o).cell
  have cQ : ∀ (o : Obj) (i : Nat), (w5.alloc o).cell? ⟨w4.heap.size, i, none⟩ = (#[.int .i64 48, .int .i64 (-1)] : Array Value)[i]? := fun o => (Q5.out.alloc o).cell
  have B5 := hid ((B4.out.alloc B4.out.size _).trans (hb.mono (Nat.le_trans B4.out.size (by simp))))
  clear hb
  go_wp2_with fail
  refine (aw_slow _).mono ?_
  rintro e w6 ⟨rfl, hb⟩
  have G6 := hid (Blk.below (G5.out.alloc _) hb (Blk.lt (G5.out.alloc _)))
  have C6 := hid (Blk.below (C5.out.alloc _) hb (Blk.lt (C5.out.alloc _)))
  have P6 := hid (Blk.below (P5.out.alloc _) hb (Blk.lt (P5.out.alloc _)))
  have Q6 := hid (Blk.below (Q5.out.alloc _) hb (Blk.lt (Q5.out.alloc _)))
  have R6 := hid (Blk.below (Blk.new w5 25 #[.int .i64 100, .int .i64 40]) hb (by simp))
  clear cG cC cP cQ
  have cG : ∀ (i : Nat), w6.cell? ⟨w1.heap.size, i, none⟩ = (#[.int .i64 8, .int .i64 2, .int .i64 2, .int .i64 0, .int .i64 100, .int .i64 10] : Array Value)[i]? := G6.out.cell
  have cC : ∀ (i : Nat), w6.cell? ⟨w2.heap.size, i, none⟩ = (#[.int .i64 50, .int .i64 0] : Array Value)[i]? := C6.out.cell
  have cP : ∀ (i : Nat), w6.cell? ⟨w3.heap.size, i, none⟩ = (#[.int .i64 55, .int .i64 2] : Array Value)[i]? := P6.out.cell
  have cQ : ∀ (i : Nat), w6.cell? ⟨w4.heap.size, i, none⟩ = (#[.int .i64 48, .int .i64 (-1)] : Array Value)[i]? := Q6.out.cell
  have cR : ∀ (i : Nat), w6.cell? ⟨w5.heap.size, i, none⟩ = (#[.int .i64 100, .int .i64 40] : Array Value)[i]? := R6.out.cell
  have B6 := hid ((B5.out.alloc B5.out.size _).trans (hb.mono (Nat.le_trans B5.out.size (by simp))))
  clear hb
  go_wp2_with fail
  refine (aw_set0 _).mono ?_
  rintro e w7 ⟨rfl, hb⟩
  have G7 := hid (Blk.below (G6.out) hb (Blk.lt (G6.out)))
  clear cG cC cP cQ cR
  have cG := G7.out.cell
  have B7 := hid (B6.out.trans (hb.mono B6.out.size))
  clear hb
  go_wp2_with fail
  refine (aw_set1 _).mono ?_
  rintro e w8 ⟨rfl, hb⟩
  have B8 := hid (B7.out.trans (hb.mono B7.out.size))
  clear hb
  go_wp2
  go_ret
  exact ⟨rfl, B8.out⟩

def startOut (kp ki sh lo hi rate out : Int) : Int := if startErr kp ki sh lo hi rate out = 0 then out else 0
def slowN (kp ki sh lo hi rate : Int) : Int := if chk kp ki sh lo hi rate = 0 then (hi - lo + rate - 1) / rate else 0
def nextOut (kp ki sh lo hi rate out last set value : Int) : Int := if stepErr kp ki sh lo hi rate out last set value = 0 then stepOut kp ki sh lo hi rate out last set value else 0
def nextLast (kp ki sh lo hi rate out last set value : Int) : Int := if stepErr kp ki sh lo hi rate out last set value = 0 then set - value else 0
theorem start_c (kp ki sh lo hi rate : Int) (out : Int) (w : World) : Calls Try.prog 10 #[.agg #[.int .i64 kp, .int .i64 ki, .int .i64 sh, .int .i64 lo, .int .i64 hi, .int .i64 rate], .int .i64 out] w fun e w' => e = .returned (.tuple #[.agg #[.int .i64 (startOut kp ki sh lo hi rate out), .int .i64 0], .int .i64 (startErr kp ki sh lo hi rate out)]) ∧ Below w.heap.size w w' := start_any kp ki sh lo hi rate out w
theorem slow_c (kp ki sh lo hi rate : Int) (w : World) : Calls Try.prog 12 #[.agg #[.int .i64 kp, .int .i64 ki, .int .i64 sh, .int .i64 lo, .int .i64 hi, .int .i64 rate]] w fun e w' => e = .returned (.tuple #[.int .i64 (slowN kp ki sh lo hi rate), .int .i64 (chk kp ki sh lo hi rate)]) ∧ Below w.heap.size w w' := slowest_any kp ki sh lo hi rate w
theorem step_c (kp ki sh lo hi rate : Int) (out last set value : Int) (w : World) : Calls Try.prog 17 #[.agg #[.int .i64 kp, .int .i64 ki, .int .i64 sh, .int .i64 lo, .int .i64 hi, .int .i64 rate], .agg #[.int .i64 out, .int .i64 last], .int .i64 set, .int .i64 value] w fun e w' => e = .returned (.tuple #[.agg #[.int .i64 (nextOut kp ki sh lo hi rate out last set value), .int .i64 (nextLast kp ki sh lo hi rate out last set value)], .int .i64 (stepErr kp ki sh lo hi rate out last set value)]) ∧ Below w.heap.size w w' := step_any kp ki sh lo hi rate out last set value w
theorem rstart_c (kp ki sh lo hi rate : Int) (out : Int) (w : World) : Calls Try.prog 11 #[.agg #[.int .i64 kp, .int .i64 ki, .int .i64 sh, .int .i64 lo, .int .i64 hi, .int .i64 rate], .int .i64 out] w fun e w' => e = .returned (.tuple #[.agg #[.int .i64 (startOut kp ki sh lo hi rate out), .int .i64 0], .int .i64 (startErr kp ki sh lo hi rate out)]) ∧ Below w.heap.size w w' := rstart_any kp ki sh lo hi rate out w
theorem rslow_c (kp ki sh lo hi rate : Int) (w : World) : Calls Try.prog 13 #[.agg #[.int .i64 kp, .int .i64 ki, .int .i64 sh, .int .i64 lo, .int .i64 hi, .int .i64 rate]] w fun e w' => e = .returned (.tuple #[.int .i64 (slowN kp ki sh lo hi rate), .int .i64 (chk kp ki sh lo hi rate)]) ∧ Below w.heap.size w w' := rslowest_any kp ki sh lo hi rate w
theorem rstep_c (kp ki sh lo hi rate : Int) (out last set value : Int) (w : World) : Calls Try.prog 18 #[.agg #[.int .i64 kp, .int .i64 ki, .int .i64 sh, .int .i64 lo, .int .i64 hi, .int .i64 rate], .agg #[.int .i64 out, .int .i64 last], .int .i64 set, .int .i64 value] w fun e w' => e = .returned (.tuple #[.agg #[.int .i64 (nextOut kp ki sh lo hi rate out last set value), .int .i64 (nextLast kp ki sh lo hi rate out last set value)], .int .i64 (stepErr kp ki sh lo hi rate out last set value)]) ∧ Below w.heap.size w w' := rstep_any kp ki sh lo hi rate out last set value w
end Go.Proofs.Ythekpbkmoejgmaa
