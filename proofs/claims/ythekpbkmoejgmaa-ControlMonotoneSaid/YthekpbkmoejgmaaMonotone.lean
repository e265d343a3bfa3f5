/- ControlMonotone. -/
import Derived.Test.YthekpbkmoejgmaaLaw25
namespace Go.Proofs.Ythekpbkmoejgmaa
open Go.RowKit


theorem clamp_mono {lo a b hi : Int} (h : a ≤ b) : clampI lo a hi ≤ clampI lo b hi := by unfold clampI; omega
theorem step_mono {kp ki sh lo hi rate out last s1 s2 v : Int} (h1 : stepErr kp ki sh lo hi rate out last s1 v = 0) (h2 : stepErr kp ki sh lo hi rate out last s2 v = 0) (h : s1 ≤ s2) : nextOut kp ki sh lo hi rate out last s1 v ≤ nextOut kp ki sh lo hi rate out last s2 v := by
  have hc : chk kp ki sh lo hi rate = 0 := by
    unfold stepErr at h1
    split at h1
    · exact h1
    · rename_i h; simpa using h
  obtain ⟨b1, b2, b3, b4, b5, b6, b7⟩ := chk_ok hc
  unfold nextOut
  rw [if_pos h1, if_pos h2]
  unfold stepOut chg
  refine clamp_mono (Int.add_le_add_left (clamp_mono ?_) _)
  refine Int.ediv_le_ediv (by have := pow_bd (k := sh.toNat) (by omega); omega) ?_
  exact Int.add_le_add (Int.mul_le_mul_of_nonneg_left (by omega) b1.1) (Int.mul_le_mul_of_nonneg_left (by omega) b2.1)

set_option maxHeartbeats 1000000 in
theorem controlMonotone_walk (x0 : Int) (x1 : Int) (x2 : Int) (x3 : Int) (x4 : Int) (x5 : Int) (x6 : Int) (x7 : Int) (x8 : Int) (x9 : Int) (x10 : Int) (w : World) (_h0 : (Lit.int .i64 x0).wf = true) (_h1 : (Lit.int .i64 x1).wf = true) (_h2 : (Lit.int .i64 x2).wf = true) (_h3 : (Lit.int .i64 x3).wf = true) (_h4 : (Lit.int .i64 x4).wf = true) (_h5 : (Lit.int .i64 x5).wf = true) (_h6 : (Lit.int .i64 x6).wf = true) (_h7 : (Lit.int .i64 x7).wf = true) (_h8 : (Lit.int .i64 x8).wf = true) (_h9 : (Lit.int .i64 x9).wf = true) (_h10 : (Lit.int .i64 x10).wf = true) :
    Calls Try.prog 7 #[.agg #[.int .i64 x0, .int .i64 x1, .int .i64 x2, .int .i64 x3, .int .i64 x4, .int .i64 x5], .agg #[.int .i64 x6, .int .i64 x7], .agg #[.int .i64 x8, .int .i64 x9, .int .i64 x10]] w fun e w' => e = .returned (.bool true) ∧ Below w.heap.size w w' := by
  by_cases e1 : stepErr x0 x1 x2 x3 x4 x5 x6 x7 x8 x10 = 0
  · by_cases e2 : stepErr x0 x1 x2 x3 x4 x5 x6 x7 x9 x10 = 0
    · rcases Int.lt_trichotomy x8 x9 with h | h | h
      · have m := step_mono e1 e2 (by omega)
        go_enter Try.func7, Try.ntmps7
        go_wp2_with fail
        refine (step_c _ _ _ _ _ _ _ _ _ _ _).mono ?_
        rintro e w1 ⟨rfl, hb⟩
        have G1 : Hid (Blk w1 (w.heap.size) 23 #[.int .i64 x0, .int .i64 x1, .int .i64 x2, .int .i64 x3, .int .i64 x4, .int .i64 x5]) := hid (Blk.below (Blk.alloc (Blk.alloc (Blk.at_new _ (by simp)) _) _) hb (by simp <;> omega))
        have C1 : Hid (Blk w1 (w.heap.size + 1) 25 #[.int .i64 x6, .int .i64 x7]) := hid (Blk.below (Blk.alloc (Blk.at_new _ (by simp)) _) hb (by simp <;> omega))
        have X1 : Hid (Blk w1 (w.heap.size + 1 + 1) 41 #[.int .i64 x8, .int .i64 x9, .int .i64 x10]) := hid (Blk.below (Blk.at_new _ (by simp)) hb (by simp <;> omega))
        have B1 : Hid (Below w.heap.size w w1) := hid (Below.trans ((((Below.refl _ _).alloc (by simp <;> omega) _).alloc (by simp <;> omega) _).alloc (by simp <;> omega) _) (hb.mono (by simp <;> omega)))
        clear hb
        have cG_0 : ∀ (i : Nat), w1.cell? ⟨w.heap.size, i, none⟩ = (#[.int .i64 x0, .int .i64 x1, .int .i64 x2, .int .i64 x3, .int .i64 x4, .int .i64 x5] : Array Value)[i]? := Blk.cell G1.out
        have cG_1 : ∀ (o0 : Obj) (i : Nat), (w1.alloc o0).cell? ⟨w.heap.size, i, none⟩ = (#[.int .i64 x0, .int .i64 x1, .int .i64 x2, .int .i64 x3, .int .i64 x4, .int .i64 x5] : Array Value)[i]? := fun _ => Blk.cell (Blk.alloc G1.out _)
        have cC_0 : ∀ (i : Nat), w1.cell? ⟨w.heap.size + 1, i, none⟩ = (#[.int .i64 x6, .int .i64 x7] : Array Value)[i]? := Blk.cell C1.out
        have cC_1 : ∀ (o0 : Obj) (i : Nat), (w1.alloc o0).cell? ⟨w.heap.size + 1, i, none⟩ = (#[.int .i64 x6, .int .i64 x7] : Array Value)[i]? := fun _ => Blk.cell (Blk.alloc C1.out _)
        have cX_0 : ∀ (i : Nat), w1.cell? ⟨w.heap.size + 1 + 1, i, none⟩ = (#[.int .i64 x8, .int .i64 x9, .int .i64 x10] : Array Value)[i]? := Blk.cell X1.out
        have cX_1 : ∀ (o0 : Obj) (i : Nat), (w1.alloc o0).cell? ⟨w.heap.size + 1 + 1, i, none⟩ = (#[.int .i64 x8, .int .i64 x9, .int .i64 x10] : Array Value)[i]? := fun _ => Blk.cell (Blk.alloc X1.out _)
        go_wp2_with fail
        refine (step_c _ _ _ _ _ _ _ _ _ _ _).mono ?_
        rintro e w2 ⟨rfl, hb⟩
        have G2 := hid (Blk.below (Blk.alloc G1.out _) hb (Blk.lt (Blk.alloc G1.out _)))
        have C2 := hid (Blk.below (Blk.alloc C1.out _) hb (Blk.lt (Blk.alloc C1.out _)))
        have X2 := hid (Blk.below (Blk.alloc X1.out _) hb (Blk.lt (Blk.alloc X1.out _)))
        have P2 : Hid (Blk w2 (w1.heap.size) 25 #[.int .i64 (nextOut x0 x1 x2 x3 x4 x5 x6 x7 x8 x10), .int .i64 (nextLast x0 x1 x2 x3 x4 x5 x6 x7 x8 x10)]) := hid (Blk.below (Blk.at_new _ (by simp)) hb (by simp <;> omega))
        have B2 : Hid (Below w.heap.size w w2) := hid (Below.trans (Below.alloc B1.out (Nat.le_trans B1.out.size (by simp <;> omega)) _) (hb.mono (Nat.le_trans B1.out.size (by simp <;> omega))))
        clear hb
        clear cG_0 cG_1 cC_0 cC_1 cX_0 cX_1
        have cG_0 : ∀ (i : Nat), w2.cell? ⟨w.heap.size, i, none⟩ = (#[.int .i64 x0, .int .i64 x1, .int .i64 x2, .int .i64 x3, .int .i64 x4, .int .i64 x5] : Array Value)[i]? := Blk.cell G2.out
        have cG_1 : ∀ (o0 : Obj) (i : Nat), (w2.alloc o0).cell? ⟨w.heap.size, i, none⟩ = (#[.int .i64 x0, .int .i64 x1, .int .i64 x2, .int .i64 x3, .int .i64 x4, .int .i64 x5] : Array Value)[i]? := fun _ => Blk.cell (Blk.alloc G2.out _)
        have cC_0 : ∀ (i : Nat), w2.cell? ⟨w.heap.size + 1, i, none⟩ = (#[.int .i64 x6, .int .i64 x7] : Array Value)[i]? := Blk.cell C2.out
        have cC_1 : ∀ (o0 : Obj) (i : Nat), (w2.alloc o0).cell? ⟨w.heap.size + 1, i, none⟩ = (#[.int .i64 x6, .int .i64 x7] : Array Value)[i]? := fun _ => Blk.cell (Blk.alloc C2.out _)
        have cX_0 : ∀ (i : Nat), w2.cell? ⟨w.heap.size + 1 + 1, i, none⟩ = (#[.int .i64 x8, .int .i64 x9, .int .i64 x10] : Array Value)[i]? := Blk.cell X2.out
        have cX_1 : ∀ (o0 : Obj) (i : Nat), (w2.alloc o0).cell? ⟨w.heap.size + 1 + 1, i, none⟩ = (#[.int .i64 x8, .int .i64 x9, .int .i64 x10] : Array Value)[i]? := fun _ => Blk.cell (Blk.alloc X2.out _)
        have cP_0 : ∀ (i : Nat), w2.cell? ⟨w1.heap.size, i, none⟩ = (#[.int .i64 (nextOut x0 x1 x2 x3 x4 x5 x6 x7 x8 x10), .int .i64 (nextLast x0 x1 x2 x3 x4 x5 x6 x7 x8 x10)] : Array Value)[i]? := Blk.cell P2.out
        have cP_1 : ∀ (o0 : Obj) (i : Nat), (w2.alloc o0).cell? ⟨w1.heap.size, i, none⟩ = (#[.int .i64 (nextOut x0 x1 x2 x3 x4 x5 x6 x7 x8 x10), .int .i64 (nextLast x0 x1 x2 x3 x4 x5 x6 x7 x8 x10)] : Array Value)[i]? := fun _ => Blk.cell (Blk.alloc P2.out _)
        go_wp2_with fail
        refine (awake_any _).mono ?_
        rintro e w3 ⟨rfl, hb⟩
        have G3 := hid (Blk.below (Blk.alloc G2.out _) hb (Blk.lt (Blk.alloc G2.out _)))
        have C3 := hid (Blk.below (Blk.alloc C2.out _) hb (Blk.lt (Blk.alloc C2.out _)))
        have X3 := hid (Blk.below (Blk.alloc X2.out _) hb (Blk.lt (Blk.alloc X2.out _)))
        have P3 := hid (Blk.below (Blk.alloc P2.out _) hb (Blk.lt (Blk.alloc P2.out _)))
        have Q3 : Hid (Blk w3 (w2.heap.size) 25 #[.int .i64 (nextOut x0 x1 x2 x3 x4 x5 x6 x7 x9 x10), .int .i64 (nextLast x0 x1 x2 x3 x4 x5 x6 x7 x9 x10)]) := hid (Blk.below (Blk.at_new _ (by simp)) hb (by simp <;> omega))
        have B3 : Hid (Below w.heap.size w w3) := hid (Below.trans (Below.alloc B2.out (Nat.le_trans B2.out.size (by simp <;> omega)) _) (hb.mono (Nat.le_trans B2.out.size (by simp <;> omega))))
        clear hb
        clear cG_0 cG_1 cC_0 cC_1 cX_0 cX_1 cP_0 cP_1
        go_wp2
        go_ret
        exact ⟨rfl, B3.out⟩
      · subst h
        go_enter Try.func7, Try.ntmps7
        go_wp2_with fail
        refine (step_c _ _ _ _ _ _ _ _ _ _ _).mono ?_
        rintro e w1 ⟨rfl, hb⟩
        have G1 : Hid (Blk w1 (w.heap.size) 23 #[.int .i64 x0, .int .i64 x1, .int .i64 x2, .int .i64 x3, .int .i64 x4, .int .i64 x5]) := hid (Blk.below (Blk.alloc (Blk.alloc (Blk.at_new _ (by simp)) _) _) hb (by simp <;> omega))
        have C1 : Hid (Blk w1 (w.heap.size + 1) 25 #[.int .i64 x6, .int .i64 x7]) := hid (Blk.below (Blk.alloc (Blk.at_new _ (by simp)) _) hb (by simp <;> omega))
        have X1 : Hid (Blk w1 (w.heap.size + 1 + 1) 41 #[.int .i64 x8, .int .i64 x8, .int .i64 x10]) := hid (Blk.below (Blk.at_new _ (by simp)) hb (by simp <;> omega))
        have B1 : Hid (Below w.heap.size w w1) := hid (Below.trans ((((Below.refl _ _).alloc (by simp <;> omega) _).alloc (by simp <;> omega) _).alloc (by simp <;> omega) _) (hb.mono (by simp <;> omega)))
        clear hb
        have cG_0 : ∀ (i : Nat), w1.cell? ⟨w.heap.size, i, none⟩ = (#[.int .i64 x0, .int .i64 x1, .int .i64 x2, .int .i64 x3, .int .i64 x4, .int .i64 x5] : Array Value)[i]? := Blk.cell G1.out
        have cG_1 : ∀ (o0 : Obj) (i : Nat), (w1.alloc o0).cell? ⟨w.heap.size, i, none⟩ = (#[.int .i64 x0, .int .i64 x1, .int .i64 x2, .int .i64 x3, .int .i64 x4, .int .i64 x5] : Array Value)[i]? := fun _ => Blk.cell (Blk.alloc G1.out _)
        have cC_0 : ∀ (i : Nat), w1.cell? ⟨w.heap.size + 1, i, none⟩ = (#[.int .i64 x6, .int .i64 x7] : Array Value)[i]? := Blk.cell C1.out
        have cC_1 : ∀ (o0 : Obj) (i : Nat), (w1.alloc o0).cell? ⟨w.heap.size + 1, i, none⟩ = (#[.int .i64 x6, .int .i64 x7] : Array Value)[i]? := fun _ => Blk.cell (Blk.alloc C1.out _)
        have cX_0 : ∀ (i : Nat), w1.cell? ⟨w.heap.size + 1 + 1, i, none⟩ = (#[.int .i64 x8, .int .i64 x8, .int .i64 x10] : Array Value)[i]? := Blk.cell X1.out
        have cX_1 : ∀ (o0 : Obj) (i : Nat), (w1.alloc o0).cell? ⟨w.heap.size + 1 + 1, i, none⟩ = (#[.int .i64 x8, .int .i64 x8, .int .i64 x10] : Array Value)[i]? := fun _ => Blk.cell (Blk.alloc X1.out _)
        go_wp2_with fail
        refine (step_c _ _ _ _ _ _ _ _ _ _ _).mono ?_
        rintro e w2 ⟨rfl, hb⟩
        have G2 := hid (Blk.below (Blk.alloc G1.out _) hb (Blk.lt (Blk.alloc G1.out _)))
        have C2 := hid (Blk.below (Blk.alloc C1.out _) hb (Blk.lt (Blk.alloc C1.out _)))
        have X2 := hid (Blk.below (Blk.alloc X1.out _) hb (Blk.lt (Blk.alloc X1.out _)))
        have P2 : Hid (Blk w2 (w1.heap.size) 25 #[.int .i64 (nextOut x0 x1 x2 x3 x4 x5 x6 x7 x8 x10), .int .i64 (nextLast x0 x1 x2 x3 x4 x5 x6 x7 x8 x10)]) := hid (Blk.below (Blk.at_new _ (by simp)) hb (by simp <;> omega))
        have B2 : Hid (Below w.heap.size w w2) := hid (Below.trans (Below.alloc B1.out (Nat.le_trans B1.out.size (by simp <;> omega)) _) (hb.mono (Nat.le_trans B1.out.size (by simp <;> omega))))
        clear hb
        clear cG_0 cG_1 cC_0 cC_1 cX_0 cX_1
        have cG_0 : ∀ (i : Nat), w2.cell? ⟨w.heap.size, i, none⟩ = (#[.int .i64 x0, .int .i64 x1, .int .i64 x2, .int .i64 x3, .int .i64 x4, .int .i64 x5] : Array Value)[i]? := Blk.cell G2.out
        have cG_1 : ∀ (o0 : Obj) (i : Nat), (w2.alloc o0).cell? ⟨w.heap.size, i, none⟩ = (#[.int .i64 x0, .int .i64 x1, .int .i64 x2, .int .i64 x3, .int .i64 x4, .int .i64 x5] : Array Value)[i]? := fun _ => Blk.cell (Blk.alloc G2.out _)
        have cC_0 : ∀ (i : Nat), w2.cell? ⟨w.heap.size + 1, i, none⟩ = (#[.int .i64 x6, .int .i64 x7] : Array Value)[i]? := Blk.cell C2.out
        have cC_1 : ∀ (o0 : Obj) (i : Nat), (w2.alloc o0).cell? ⟨w.heap.size + 1, i, none⟩ = (#[.int .i64 x6, .int .i64 x7] : Array Value)[i]? := fun _ => Blk.cell (Blk.alloc C2.out _)
        have cX_0 : ∀ (i : Nat), w2.cell? ⟨w.heap.size + 1 + 1, i, none⟩ = (#[.int .i64 x8, .int .i64 x8, .int .i64 x10] : Array Value)[i]? := Blk.cell X2.out
        have cX_1 : ∀ (o0 : Obj) (i : Nat), (w2.alloc o0).cell? ⟨w.heap.size + 1 + 1, i, none⟩ = (#[.int .i64 x8, .int .i64 x8, .int .i64 x10] : Array Value)[i]? := fun _ => Blk.cell (Blk.alloc X2.out _)
        have cP_0 : ∀ (i : Nat), w2.cell? ⟨w1.heap.size, i, none⟩ = (#[.int .i64 (nextOut x0 x1 x2 x3 x4 x5 x6 x7 x8 x10), .int .i64 (nextLast x0 x1 x2 x3 x4 x5 x6 x7 x8 x10)] : Array Value)[i]? := Blk.cell P2.out
        have cP_1 : ∀ (o0 : Obj) (i : Nat), (w2.alloc o0).cell? ⟨w1.heap.size, i, none⟩ = (#[.int .i64 (nextOut x0 x1 x2 x3 x4 x5 x6 x7 x8 x10), .int .i64 (nextLast x0 x1 x2 x3 x4 x5 x6 x7 x8 x10)] : Array Value)[i]? := fun _ => Blk.cell (Blk.alloc P2.out _)
        go_wp2_with fail
        refine (awake_any _).mono ?_
        rintro e w3 ⟨rfl, hb⟩
        have G3 := hid (Blk.below (Blk.alloc G2.out _) hb (Blk.lt (Blk.alloc G2.out _)))
        have C3 := hid (Blk.below (Blk.alloc C2.out _) hb (Blk.lt (Blk.alloc C2.out _)))
        have X3 := hid (Blk.below (Blk.alloc X2.out _) hb (Blk.lt (Blk.alloc X2.out _)))
        have P3 := hid (Blk.below (Blk.alloc P2.out _) hb (Blk.lt (Blk.alloc P2.out _)))
        have Q3 : Hid (Blk w3 (w2.heap.size) 25 #[.int .i64 (nextOut x0 x1 x2 x3 x4 x5 x6 x7 x8 x10), .int .i64 (nextLast x0 x1 x2 x3 x4 x5 x6 x7 x8 x10)]) := hid (Blk.below (Blk.at_new _ (by simp)) hb (by simp <;> omega))
        have B3 : Hid (Below w.heap.size w w3) := hid (Below.trans (Below.alloc B2.out (Nat.le_trans B2.out.size (by simp <;> omega)) _) (hb.mono (Nat.le_trans B2.out.size (by simp <;> omega))))
        clear hb
        clear cG_0 cG_1 cC_0 cC_1 cX_0 cX_1 cP_0 cP_1
        go_wp2
        go_ret
        exact ⟨rfl, B3.out⟩
      · have m := step_mono e2 e1 (by omega)
        go_enter Try.func7, Try.ntmps7
        go_wp2_with fail
        refine (step_c _ _ _ _ _ _ _ _ _ _ _).mono ?_
        rintro e w1 ⟨rfl, hb⟩
        have G1 : Hid (Blk w1 (w.heap.size) 23 #[.int .i64 x0, .int .i64 x1, .int .i64 x2, .int .i64 x3, .int .i64 x4, .int .i64 x5]) := hid (Blk.below (Blk.alloc (Blk.alloc (Blk.at_new _ (by simp)) _) _) hb (by simp <;> omega))
        have C1 : Hid (Blk w1 (w.heap.size + 1) 25 #[.int .i64 x6, .int .i64 x7]) := hid (Blk.below (Blk.alloc (Blk.at_new _ (by simp)) _) hb (by simp <;> omega))
        have X1 : Hid (Blk w1 (w.heap.size + 1 + 1) 41 #[.int .i64 x8, .int .i64 x9, .int .i64 x10]) := hid (Blk.below (Blk.at_new _ (by simp)) hb (by simp <;> omega))
        have B1 : Hid (Below w.heap.size w w1) := hid (Below.trans ((((Below.refl _ _).alloc (by simp <;> omega) _).alloc (by simp <;> omega) _).alloc (by simp <;> omega) _) (hb.mono (by simp <;> omega)))
        clear hb
        have cG_0 : ∀ (i : Nat), w1.cell? ⟨w.heap.size, i, none⟩ = (#[.int .i64 x0, .int .i64 x1, .int .i64 x2, .int .i64 x3, .int .i64 x4, .int .i64 x5] : Array Value)[i]? := Blk.cell G1.out
        have cG_1 : ∀ (o0 : Obj) (i : Nat), (w1.alloc o0).cell? ⟨w.heap.size, i, none⟩ = (#[.int .i64 x0, .int .i64 x1, .int .i64 x2, .int .i64 x3, .int .i64 x4, .int .i64 x5] : Array Value)[i]? := fun _ => Blk.cell (Blk.alloc G1.out _)
        have cC_0 : ∀ (i : Nat), w1.cell? ⟨w.heap.size + 1, i, none⟩ = (#[.int .i64 x6, .int .i64 x7] : Array Value)[i]? := Blk.cell C1.out
        have cC_1 : ∀ (o0 : Obj) (i : Nat), (w1.alloc o0).cell? ⟨w.heap.size + 1, i, none⟩ = (#[.int .i64 x6, .int .i64 x7] : Array Value)[i]? := fun _ => Blk.cell (Blk.alloc C1.out _)
        have cX_0 : ∀ (i : Nat), w1.cell? ⟨w.heap.size + 1 + 1, i, none⟩ = (#[.int .i64 x8, .int .i64 x9, .int .i64 x10] : Array Value)[i]? := Blk.cell X1.out
        have cX_1 : ∀ (o0 : Obj) (i : Nat), (w1.alloc o0).cell? ⟨w.heap.size + 1 + 1, i, none⟩ = (#[.int .i64 x8, .int .i64 x9, .int .i64 x10] : Array Value)[i]? := fun _ => Blk.cell (Blk.alloc X1.out _)
        go_wp2_with fail
        refine (step_c _ _ _ _ _ _ _ _ _ _ _).mono ?_
        rintro e w2 ⟨rfl, hb⟩
        have G2 := hid (Blk.below (Blk.alloc G1.out _) hb (Blk.lt (Blk.alloc G1.out _)))
        have C2 := hid (Blk.below (Blk.alloc C1.out _) hb (Blk.lt (Blk.alloc C1.out _)))
        have X2 := hid (Blk.below (Blk.alloc X1.out _) hb (Blk.lt (Blk.alloc X1.out _)))
        have P2 : Hid (Blk w2 (w1.heap.size) 25 #[.int .i64 (nextOut x0 x1 x2 x3 x4 x5 x6 x7 x8 x10), .int .i64 (nextLast x0 x1 x2 x3 x4 x5 x6 x7 x8 x10)]) := hid (Blk.below (Blk.at_new _ (by simp)) hb (by simp <;> omega))
        have B2 : Hid (Below w.heap.size w w2) := hid (Below.trans (Below.alloc B1.out (Nat.le_trans B1.out.size (by simp <;> omega)) _) (hb.mono (Nat.le_trans B1.out.size (by simp <;> omega))))
        clear hb
        clear cG_0 cG_1 cC_0 cC_1 cX_0 cX_1
        have cG_0 : ∀ (i : Nat), w2.cell? ⟨w.heap.size, i, none⟩ = (#[.int .i64 x0, .int .i64 x1, .int .i64 x2, .int .i64 x3, .int .i64 x4, .int .i64 x5] : Array Value)[i]? := Blk.cell G2.out
        have cG_1 : ∀ (o0 : Obj) (i : Nat), (w2.alloc o0).cell? ⟨w.heap.size, i, none⟩ = (#[.int .i64 x0, .int .i64 x1, .int .i64 x2, .int .i64 x3, .int .i64 x4, .int .i64 x5] : Array Value)[i]? := fun _ => Blk.cell (Blk.alloc G2.out _)
        have cC_0 : ∀ (i : Nat), w2.cell? ⟨w.heap.size + 1, i, none⟩ = (#[.int .i64 x6, .int .i64 x7] : Array Value)[i]? := Blk.cell C2.out
        have cC_1 : ∀ (o0 : Obj) (i : Nat), (w2.alloc o0).cell? ⟨w.heap.size + 1, i, none⟩ = (#[.int .i64 x6, .int .i64 x7] : Array Value)[i]? := fun _ => Blk.cell (Blk.alloc C2.out _)
        have cX_0 : ∀ (i : Nat), w2.cell? ⟨w.heap.size + 1 + 1, i, none⟩ = (#[.int .i64 x8, .int .i64 x9, .int .i64 x10] : Array Value)[i]? := Blk.cell X2.out
        have cX_1 : ∀ (o0 : Obj) (i : Nat), (w2.alloc o0).cell? ⟨w.heap.size + 1 + 1, i, none⟩ = (#[.int .i64 x8, .int .i64 x9, .int .i64 x10] : Array Value)[i]? := fun _ => Blk.cell (Blk.alloc X2.out _)
        have cP_0 : ∀ (i : Nat), w2.cell? ⟨w1.heap.size, i, none⟩ = (#[.int .i64 (nextOut x0 x1 x2 x3 x4 x5 x6 x7 x8 x10), .int .i64 (nextLast x0 x1 x2 x3 x4 x5 x6 x7 x8 x10)] : Array Value)[i]? := Blk.cell P2.out
        have cP_1 : ∀ (o0 : Obj) (i : Nat), (w2.alloc o0).cell? ⟨w1.heap.size, i, none⟩ = (#[.int .i64 (nextOut x0 x1 x2 x3 x4 x5 x6 x7 x8 x10), .int .i64 (nextLast x0 x1 x2 x3 x4 x5 x6 x7 x8 x10)] : Array Value)[i]? := fun _ => Blk.cell (Blk.alloc P2.out _)
        go_wp2_with fail
        refine (awake_any _).mono ?_
        rintro e w3 ⟨rfl, hb⟩
        have G3 := hid (Blk.below (Blk.alloc G2.out _) hb (Blk.lt (Blk.alloc G2.out _)))
        have C3 := hid (Blk.below (Blk.alloc C2.out _) hb (Blk.lt (Blk.alloc C2.out _)))
        have X3 := hid (Blk.below (Blk.alloc X2.out _) hb (Blk.lt (Blk.alloc X2.out _)))
        have P3 := hid (Blk.below (Blk.alloc P2.out _) hb (Blk.lt (Blk.alloc P2.out _)))
        have Q3 : Hid (Blk w3 (w2.heap.size) 25 #[.int .i64 (nextOut x0 x1 x2 x3 x4 x5 x6 x7 x9 x10), .int .i64 (nextLast x0 x1 x2 x3 x4 x5 x6 x7 x9 x10)]) := hid (Blk.below (Blk.at_new _ (by simp)) hb (by simp <;> omega))
        have B3 : Hid (Below w.heap.size w w3) := hid (Below.trans (Below.alloc B2.out (Nat.le_trans B2.out.size (by simp <;> omega)) _) (hb.mono (Nat.le_trans B2.out.size (by simp <;> omega))))
        clear hb
        clear cG_0 cG_1 cC_0 cC_1 cX_0 cX_1 cP_0 cP_1
        go_wp2
        go_ret
        exact ⟨rfl, B3.out⟩
    · have e3 : (stepErr x0 x1 x2 x3 x4 x5 x6 x7 x9 x10 != 0) = true := by simpa using e2
      go_enter Try.func7, Try.ntmps7
      go_wp2_with fail
      refine (step_c _ _ _ _ _ _ _ _ _ _ _).mono ?_
      rintro e w1 ⟨rfl, hb⟩
      have G1 : Hid (Blk w1 (w.heap.size) 23 #[.int .i64 x0, .int .i64 x1, .int .i64 x2, .int .i64 x3, .int .i64 x4, .int .i64 x5]) := hid (Blk.below (Blk.alloc (Blk.alloc (Blk.at_new _ (by simp)) _) _) hb (by simp <;> omega))
      have C1 : Hid (Blk w1 (w.heap.size + 1) 25 #[.int .i64 x6, .int .i64 x7]) := hid (Blk.below (Blk.alloc (Blk.at_new _ (by simp)) _) hb (by simp <;> omega))
      have X1 : Hid (Blk w1 (w.heap.size + 1 + 1) 41 #[.int .i64 x8, .int .i64 x9, .int .i64 x10]) := hid (Blk.below (Blk.at_new _ (by simp)) hb (by simp <;> omega))
      have B1 : Hid (Below w.heap.size w w1) := hid (Below.trans ((((Below.refl _ _).alloc (by simp <;> omega) _).alloc (by simp <;> omega) _).alloc (by simp <;> omega) _) (hb.mono (by simp <;> omega)))
      clear hb
      have cG_0 : ∀ (i : Nat), w1.cell? ⟨w.heap.size, i, none⟩ = (#[.int .i64 x0, .int .i64 x1, .int .i64 x2, .int .i64 x3, .int .i64 x4, .int .i64 x5] : Array Value)[i]? := Blk.cell G1.out
      have cG_1 : ∀ (o0 : Obj) (i : Nat), (w1.alloc o0).cell? ⟨w.heap.size, i, none⟩ = (#[.int .i64 x0, .int .i64 x1, .int .i64 x2, .int .i64 x3, .int .i64 x4, .int .i64 x5] : Array Value)[i]? := fun _ => Blk.cell (Blk.alloc G1.out _)
      have cC_0 : ∀ (i : Nat), w1.cell? ⟨w.heap.size + 1, i, none⟩ = (#[.int .i64 x6, .int .i64 x7] : Array Value)[i]? := Blk.cell C1.out
      have cC_1 : ∀ (o0 : Obj) (i : Nat), (w1.alloc o0).cell? ⟨w.heap.size + 1, i, none⟩ = (#[.int .i64 x6, .int .i64 x7] : Array Value)[i]? := fun _ => Blk.cell (Blk.alloc C1.out _)
      have cX_0 : ∀ (i : Nat), w1.cell? ⟨w.heap.size + 1 + 1, i, none⟩ = (#[.int .i64 x8, .int .i64 x9, .int .i64 x10] : Array Value)[i]? := Blk.cell X1.out
      have cX_1 : ∀ (o0 : Obj) (i : Nat), (w1.alloc o0).cell? ⟨w.heap.size + 1 + 1, i, none⟩ = (#[.int .i64 x8, .int .i64 x9, .int .i64 x10] : Array Value)[i]? := fun _ => Blk.cell (Blk.alloc X1.out _)
      go_wp2_with fail
      refine (step_c _ _ _ _ _ _ _ _ _ _ _).mono ?_
      rintro e w2 ⟨rfl, hb⟩
      have G2 := hid (Blk.below (Blk.alloc G1.out _) hb (Blk.lt (Blk.alloc G1.out _)))
      have C2 := hid (Blk.below (Blk.alloc C1.out _) hb (Blk.lt (Blk.alloc C1.out _)))
      have X2 := hid (Blk.below (Blk.alloc X1.out _) hb (Blk.lt (Blk.alloc X1.out _)))
      have P2 : Hid (Blk w2 (w1.heap.size) 25 #[.int .i64 (nextOut x0 x1 x2 x3 x4 x5 x6 x7 x8 x10), .int .i64 (nextLast x0 x1 x2 x3 x4 x5 x6 x7 x8 x10)]) := hid (Blk.below (Blk.at_new _ (by simp)) hb (by simp <;> omega))
      have B2 : Hid (Below w.heap.size w w2) := hid (Below.trans (Below.alloc B1.out (Nat.le_trans B1.out.size (by simp <;> omega)) _) (hb.mono (Nat.le_trans B1.out.size (by simp <;> omega))))
      clear hb
      clear cG_0 cG_1 cC_0 cC_1 cX_0 cX_1
      have cG_0 : ∀ (i : Nat), w2.cell? ⟨w.heap.size, i, none⟩ = (#[.int .i64 x0, .int .i64 x1, .int .i64 x2, .int .i64 x3, .int .i64 x4, .int .i64 x5] : Array Value)[i]? := Blk.cell G2.out
      have cG_1 : ∀ (o0 : Obj) (i : Nat), (w2.alloc o0).cell? ⟨w.heap.size, i, none⟩ = (#[.int .i64 x0, .int .i64 x1, .int .i64 x2, .int .i64 x3, .int .i64 x4, .int .i64 x5] : Array Value)[i]? := fun _ => Blk.cell (Blk.alloc G2.out _)
      have cC_0 : ∀ (i : Nat), w2.cell? ⟨w.heap.size + 1, i, none⟩ = (#[.int .i64 x6, .int .i64 x7] : Array Value)[i]? := Blk.cell C2.out
      have cC_1 : ∀ (o0 : Obj) (i : Nat), (w2.alloc o0).cell? ⟨w.heap.size + 1, i, none⟩ = (#[.int .i64 x6, .int .i64 x7] : Array Value)[i]? := fun _ => Blk.cell (Blk.alloc C2.out _)
      have cX_0 : ∀ (i : Nat), w2.cell? ⟨w.heap.size + 1 + 1, i, none⟩ = (#[.int .i64 x8, .int .i64 x9, .int .i64 x10] : Array Value)[i]? := Blk.cell X2.out
      have cX_1 : ∀ (o0 : Obj) (i : Nat), (w2.alloc o0).cell? ⟨w.heap.size + 1 + 1, i, none⟩ = (#[.int .i64 x8, .int .i64 x9, .int .i64 x10] : Array Value)[i]? := fun _ => Blk.cell (Blk.alloc X2.out _)
      have cP_0 : ∀ (i : Nat), w2.cell? ⟨w1.heap.size, i, none⟩ = (#[.int .i64 (nextOut x0 x1 x2 x3 x4 x5 x6 x7 x8 x10), .int .i64 (nextLast x0 x1 x2 x3 x4 x5 x6 x7 x8 x10)] : Array Value)[i]? := Blk.cell P2.out
      have cP_1 : ∀ (o0 : Obj) (i : Nat), (w2.alloc o0).cell? ⟨w1.heap.size, i, none⟩ = (#[.int .i64 (nextOut x0 x1 x2 x3 x4 x5 x6 x7 x8 x10), .int .i64 (nextLast x0 x1 x2 x3 x4 x5 x6 x7 x8 x10)] : Array Value)[i]? := fun _ => Blk.cell (Blk.alloc P2.out _)
      go_wp2_with fail
      refine (awake_any _).mono ?_
      rintro e w3 ⟨rfl, hb⟩
      have G3 := hid (Blk.below (Blk.alloc G2.out _) hb (Blk.lt (Blk.alloc G2.out _)))
      have C3 := hid (Blk.below (Blk.alloc C2.out _) hb (Blk.lt (Blk.alloc C2.out _)))
      have X3 := hid (Blk.below (Blk.alloc X2.out _) hb (Blk.lt (Blk.alloc X2.out _)))
      have P3 := hid (Blk.below (Blk.alloc P2.out _) hb (Blk.lt (Blk.alloc P2.out _)))
      have Q3 : Hid (Blk w3 (w2.heap.size) 25 #[.int .i64 (nextOut x0 x1 x2 x3 x4 x5 x6 x7 x9 x10), .int .i64 (nextLast x0 x1 x2 x3 x4 x5 x6 x7 x9 x10)]) := hid (Blk.below (Blk.at_new _ (by simp)) hb (by simp <;> omega))
      have B3 : Hid (Below w.heap.size w w3) := hid (Below.trans (Below.alloc B2.out (Nat.le_trans B2.out.size (by simp <;> omega)) _) (hb.mono (Nat.le_trans B2.out.size (by simp <;> omega))))
      clear hb
      clear cG_0 cG_1 cC_0 cC_1 cX_0 cX_1 cP_0 cP_1
      go_wp2
      go_ret
      exact ⟨rfl, B3.out⟩
  · have e3 : (stepErr x0 x1 x2 x3 x4 x5 x6 x7 x8 x10 != 0) = true := by simpa using e1
    go_enter Try.func7, Try.ntmps7
    go_wp2_with fail
    refine (step_c _ _ _ _ _ _ _ _ _ _ _).mono ?_
    rintro e w1 ⟨rfl, hb⟩
    have G1 : Hid (Blk w1 (w.heap.size) 23 #[.int .i64 x0, .int .i64 x1, .int .i64 x2, .int .i64 x3, .int .i64 x4, .int .i64 x5]) := hid (Blk.below (Blk.alloc (Blk.alloc (Blk.at_new _ (by simp)) _) _) hb (by simp <;> omega))
    have C1 : Hid (Blk w1 (w.heap.size + 1) 25 #[.int .i64 x6, .int .i64 x7]) := hid (Blk.below (Blk.alloc (Blk.at_new _ (by simp)) _) hb (by simp <;> omega))
    have X1 : Hid (Blk w1 (w.heap.size + 1 + 1) 41 #[.int .i64 x8, .int .i64 x9, .int .i64 x10]) := hid (Blk.below (Blk.at_new _ (by simp)) hb (by simp <;> omega))
    have B1 : Hid (Below w.heap.size w w1) := hid (Below.trans ((((Below.refl _ _).alloc (by simp <;> omega) _).alloc (by simp <;> omega) _).alloc (by simp <;> omega) _) (hb.mono (by simp <;> omega)))
    clear hb
    have cG_0 : ∀ (i : Nat), w1.cell? ⟨w.heap.size, i, none⟩ = (#[.int .i64 x0, .int .i64 x1, .int .i64 x2, .int .i64 x3, .int .i64 x4, .int .i64 x5] : Array Value)[i]? := Blk.cell G1.out
    have cG_1 : ∀ (o0 : Obj) (i : Nat), (w1.alloc o0).cell? ⟨w.heap.size, i, none⟩ = (#[.int .i64 x0, .int .i64 x1, .int .i64 x2, .int .i64 x3, .int .i64 x4, .int .i64 x5] : Array Value)[i]? := fun _ => Blk.cell (Blk.alloc G1.out _)
    have cC_0 : ∀ (i : Nat), w1.cell? ⟨w.heap.size + 1, i, none⟩ = (#[.int .i64 x6, .int .i64 x7] : Array Value)[i]? := Blk.cell C1.out
    have cC_1 : ∀ (o0 : Obj) (i : Nat), (w1.alloc o0).cell? ⟨w.heap.size + 1, i, none⟩ = (#[.int .i64 x6, .int .i64 x7] : Array Value)[i]? := fun _ => Blk.cell (Blk.alloc C1.out _)
    have cX_0 : ∀ (i : Nat), w1.cell? ⟨w.heap.size + 1 + 1, i, none⟩ = (#[.int .i64 x8, .int .i64 x9, .int .i64 x10] : Array Value)[i]? := Blk.cell X1.out
    have cX_1 : ∀ (o0 : Obj) (i : Nat), (w1.alloc o0).cell? ⟨w.heap.size + 1 + 1, i, none⟩ = (#[.int .i64 x8, .int .i64 x9, .int .i64 x10] : Array Value)[i]? := fun _ => Blk.cell (Blk.alloc X1.out _)
    go_wp2_with fail
    refine (step_c _ _ _ _ _ _ _ _ _ _ _).mono ?_
    rintro e w2 ⟨rfl, hb⟩
    have G2 := hid (Blk.below (Blk.alloc G1.out _) hb (Blk.lt (Blk.alloc G1.out _)))
    have C2 := hid (Blk.below (Blk.alloc C1.out _) hb (Blk.lt (Blk.alloc C1.out _)))
    have X2 := hid (Blk.below (Blk.alloc X1.out _) hb (Blk.lt (Blk.alloc X1.out _)))
    have P2 : Hid (Blk w2 (w1.heap.size) 25 #[.int .i64 (nextOut x0 x1 x2 x3 x4 x5 x6 x7 x8 x10), .int .i64 (nextLast x0 x1 x2 x3 x4 x5 x6 x7 x8 x10)]) := hid (Blk.below (Blk.at_new _ (by simp)) hb (by simp <;> omega))
    have B2 : Hid (Below w.heap.size w w2) := hid (Below.trans (Below.alloc B1.out (Nat.le_trans B1.out.size (by simp <;> omega)) _) (hb.mono (Nat.le_trans B1.out.size (by simp <;> omega))))
    clear hb
    clear cG_0 cG_1 cC_0 cC_1 cX_0 cX_1
    have cG_0 : ∀ (i : Nat), w2.cell? ⟨w.heap.size, i, none⟩ = (#[.int .i64 x0, .int .i64 x1, .int .i64 x2, .int .i64 x3, .int .i64 x4, .int .i64 x5] : Array Value)[i]? := Blk.cell G2.out
    have cG_1 : ∀ (o0 : Obj) (i : Nat), (w2.alloc o0).cell? ⟨w.heap.size, i, none⟩ = (#[.int .i64 x0, .int .i64 x1, .int .i64 x2, .int .i64 x3, .int .i64 x4, .int .i64 x5] : Array Value)[i]? := fun _ => Blk.cell (Blk.alloc G2.out _)
    have cC_0 : ∀ (i : Nat), w2.cell? ⟨w.heap.size + 1, i, none⟩ = (#[.int .i64 x6, .int .i64 x7] : Array Value)[i]? := Blk.cell C2.out
    have cC_1 : ∀ (o0 : Obj) (i : Nat), (w2.alloc o0).cell? ⟨w.heap.size + 1, i, none⟩ = (#[.int .i64 x6, .int .i64 x7] : Array Value)[i]? := fun _ => Blk.cell (Blk.alloc C2.out _)
    have cX_0 : ∀ (i : Nat), w2.cell? ⟨w.heap.size + 1 + 1, i, none⟩ = (#[.int .i64 x8, .int .i64 x9, .int .i64 x10] : Array Value)[i]? := Blk.cell X2.out
    have cX_1 : ∀ (o0 : Obj) (i : Nat), (w2.alloc o0).cell? ⟨w.heap.size + 1 + 1, i, none⟩ = (#[.int .i64 x8, .int .i64 x9, .int .i64 x10] : Array Value)[i]? := fun _ => Blk.cell (Blk.alloc X2.out _)
    have cP_0 : ∀ (i : Nat), w2.cell? ⟨w1.heap.size, i, none⟩ = (#[.int .i64 (nextOut x0 x1 x2 x3 x4 x5 x6 x7 x8 x10), .int .i64 (nextLast x0 x1 x2 x3 x4 x5 x6 x7 x8 x10)] : Array Value)[i]? := Blk.cell P2.out
    have cP_1 : ∀ (o0 : Obj) (i : Nat), (w2.alloc o0).cell? ⟨w1.heap.size, i, none⟩ = (#[.int .i64 (nextOut x0 x1 x2 x3 x4 x5 x6 x7 x8 x10), .int .i64 (nextLast x0 x1 x2 x3 x4 x5 x6 x7 x8 x10)] : Array Value)[i]? := fun _ => Blk.cell (Blk.alloc P2.out _)
    go_wp2_with fail
    refine (awake_any _).mono ?_
    rintro e w3 ⟨rfl, hb⟩
    have G3 := hid (Blk.below (Blk.alloc G2.out _) hb (Blk.lt (Blk.alloc G2.out _)))
    have C3 := hid (Blk.below (Blk.alloc C2.out _) hb (Blk.lt (Blk.alloc C2.out _)))
    have X3 := hid (Blk.below (Blk.alloc X2.out _) hb (Blk.lt (Blk.alloc X2.out _)))
    have P3 := hid (Blk.below (Blk.alloc P2.out _) hb (Blk.lt (Blk.alloc P2.out _)))
    have Q3 : Hid (Blk w3 (w2.heap.size) 25 #[.int .i64 (nextOut x0 x1 x2 x3 x4 x5 x6 x7 x9 x10), .int .i64 (nextLast x0 x1 x2 x3 x4 x5 x6 x7 x9 x10)]) := hid (Blk.below (Blk.at_new _ (by simp)) hb (by simp <;> omega))
    have B3 : Hid (Below w.heap.size w w3) := hid (Below.trans (Below.alloc B2.out (Nat.le_trans B2.out.size (by simp <;> omega)) _) (hb.mono (Nat.le_trans B2.out.size (by simp <;> omega))))
    clear hb
    clear cG_0 cG_1 cC_0 cC_1 cX_0 cX_1 cP_0 cP_1
    go_wp2
    go_ret
    exact ⟨rfl, B3.out⟩
end Go.Proofs.Ythekpbkmoejgmaa
