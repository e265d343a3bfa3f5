/- ControlRests. -/
import Derived.Test.YthekpbkmoejgmaaLaw25
namespace Go.Proofs.Ythekpbkmoejgmaa
open Go.RowKit


theorem rest_out {kp ki sh lo hi rate out set : Int} (h : stepErr kp ki sh lo hi rate out 0 set set = 0) : stepOut kp ki sh lo hi rate out 0 set set = out := by
  have hc : chk kp ki sh lo hi rate = 0 := by
    unfold stepErr at h
    split at h
    · exact h
    · rename_i hq; simpa using hq
  have ho : inB out lo hi = true := by
    unfold stepErr at h
    rw [if_neg (by simp [hc])] at h
    split at h
    · rename_i hb
      simp only [Bool.and_eq_true] at hb
      exact hb.1
    · cases h
  obtain ⟨b1, b2, b3, b4, b5, b6, b7⟩ := chk_ok hc
  have := inB_true ho
  unfold stepOut chg
  simp only [Int.sub_self, Int.mul_zero, Int.add_zero, Int.zero_ediv]
  unfold clampI
  omega
theorem rest_next {kp ki sh lo hi rate out set : Int} (h : stepErr kp ki sh lo hi rate out 0 set set = 0) : nextOut kp ki sh lo hi rate out 0 set set = out ∧ nextLast kp ki sh lo hi rate out 0 set set = 0 := by
  unfold nextOut nextLast
  rw [if_pos h, if_pos h]
  exact ⟨rest_out h, Int.sub_self _⟩
theorem rest_set {kp ki sh lo hi rate out set : Int} (h : stepErr kp ki sh lo hi rate out 0 set set = 0) : settledB kp ki sh lo hi rate out 0 set set = true := by
  simp [settledB, h, rest_out h]
theorem next_out {kp ki sh lo hi rate out last set v : Int} (h : stepErr kp ki sh lo hi rate out last set v = 0) : nextOut kp ki sh lo hi rate out last set v = stepOut kp ki sh lo hi rate out last set v := by unfold nextOut; rw [if_pos h]
theorem next_last {kp ki sh lo hi rate out last set v : Int} (h : stepErr kp ki sh lo hi rate out last set v = 0) : nextLast kp ki sh lo hi rate out last set v = set - v := by unfold nextLast; rw [if_pos h]

set_option maxHeartbeats 1000000 in
theorem controlRests_walk (x0 : Int) (x1 : Int) (x2 : Int) (x3 : Int) (x4 : Int) (x5 : Int) (x6 : Int) (x7 : Int) (x8 : Int) (x9 : Int) (w : World) (_h0 : (Lit.int .i64 x0).wf = true) (_h1 : (Lit.int .i64 x1).wf = true) (_h2 : (Lit.int .i64 x2).wf = true) (_h3 : (Lit.int .i64 x3).wf = true) (_h4 : (Lit.int .i64 x4).wf = true) (_h5 : (Lit.int .i64 x5).wf = true) (_h6 : (Lit.int .i64 x6).wf = true) (_h7 : (Lit.int .i64 x7).wf = true) (_h8 : (Lit.int .i64 x8).wf = true) (_h9 : (Lit.int .i64 x9).wf = true) :
    Calls Try.prog 8 #[.agg #[.int .i64 x0, .int .i64 x1, .int .i64 x2, .int .i64 x3, .int .i64 x4, .int .i64 x5], .agg #[.int .i64 x6, .int .i64 x7], .agg #[.int .i64 x8, .int .i64 x9]] w fun e w' => e = .returned (.bool true) ∧ Below w.heap.size w w' := by
  by_cases e1 : stepErr x0 x1 x2 x3 x4 x5 x6 x7 x8 x9 = 0
  · by_cases n1 : nextOut x0 x1 x2 x3 x4 x5 x6 x7 x8 x9 = x6
    · by_cases n2 : nextLast x0 x1 x2 x3 x4 x5 x6 x7 x8 x9 = x7
      · have hs : settledB x0 x1 x2 x3 x4 x5 x6 x7 x8 x9 = true := by rw [next_out e1] at n1; rw [next_last e1] at n2; simp [settledB, e1, n1, n2]
        have HN : Hid (nextOut x0 x1 x2 x3 x4 x5 x6 x7 x8 x9 = x6 ∧ nextLast x0 x1 x2 x3 x4 x5 x6 x7 x8 x9 = x7) := hid ⟨n1, n2⟩
        clear n1 n2
        by_cases e2 : stepErr x0 x1 x2 x3 x4 x5 x6 0 x8 x8 = 0
        · have hs2 : settledB x0 x1 x2 x3 x4 x5 x6 0 x8 x8 = true := rest_set e2
          have N2 : Hid (nextOut x0 x1 x2 x3 x4 x5 x6 0 x8 x8 = x6 ∧ nextLast x0 x1 x2 x3 x4 x5 x6 0 x8 x8 = 0) := hid (rest_next e2)
          go_enter Try.func8, Try.ntmps8
          go_wp2_with fail
          refine (step_c _ _ _ _ _ _ _ _ _ _ _).mono ?_
          rintro e w1 ⟨rfl, hb⟩
          have G1 : Hid (Blk w1 (w.heap.size) 23 #[.int .i64 x0, .int .i64 x1, .int .i64 x2, .int .i64 x3, .int .i64 x4, .int .i64 x5]) := hid (Blk.below (Blk.alloc (Blk.alloc (Blk.at_new _ (by simp)) _) _) hb (by simp <;> omega))
          have C1 : Hid (Blk w1 (w.heap.size + 1) 25 #[.int .i64 x6, .int .i64 x7]) := hid (Blk.below (Blk.alloc (Blk.at_new _ (by simp)) _) hb (by simp <;> omega))
          have X1 : Hid (Blk w1 (w.heap.size + 1 + 1) 35 #[.int .i64 x8, .int .i64 x9]) := hid (Blk.below (Blk.at_new _ (by simp)) hb (by simp <;> omega))
          have B1 : Hid (Below w.heap.size w w1) := hid (Below.trans ((((Below.refl _ _).alloc (by simp <;> omega) _).alloc (by simp <;> omega) _).alloc (by simp <;> omega) _) (hb.mono (by simp <;> omega)))
          clear hb
          have cG_0 : ∀ (i : Nat), w1.cell? ⟨w.heap.size, i, none⟩ = (#[.int .i64 x0, .int .i64 x1, .int .i64 x2, .int .i64 x3, .int .i64 x4, .int .i64 x5] : Array Value)[i]? := Blk.cell G1.out
          have cG_1 : ∀ (o0 : Obj) (i : Nat), (w1.alloc o0).cell? ⟨w.heap.size, i, none⟩ = (#[.int .i64 x0, .int .i64 x1, .int .i64 x2, .int .i64 x3, .int .i64 x4, .int .i64 x5] : Array Value)[i]? := fun _ => Blk.cell (Blk.alloc G1.out _)
          have cC_0 : ∀ (i : Nat), w1.cell? ⟨w.heap.size + 1, i, none⟩ = (#[.int .i64 x6, .int .i64 x7] : Array Value)[i]? := Blk.cell C1.out
          have cC_1 : ∀ (o0 : Obj) (i : Nat), (w1.alloc o0).cell? ⟨w.heap.size + 1, i, none⟩ = (#[.int .i64 x6, .int .i64 x7] : Array Value)[i]? := fun _ => Blk.cell (Blk.alloc C1.out _)
          have cX_0 : ∀ (i : Nat), w1.cell? ⟨w.heap.size + 1 + 1, i, none⟩ = (#[.int .i64 x8, .int .i64 x9] : Array Value)[i]? := Blk.cell X1.out
          have cX_1 : ∀ (o0 : Obj) (i : Nat), (w1.alloc o0).cell? ⟨w.heap.size + 1 + 1, i, none⟩ = (#[.int .i64 x8, .int .i64 x9] : Array Value)[i]? := fun _ => Blk.cell (Blk.alloc X1.out _)
          go_wp2_with fail
          refine (settled_any _ _ _ _ _ _ _ _ _ _ _).mono ?_
          rintro e w2 ⟨rfl, hb⟩
          have G2 := hid (Blk.below (Blk.alloc G1.out _) hb (Blk.lt (Blk.alloc G1.out _)))
          have C2 := hid (Blk.below (Blk.alloc C1.out _) hb (Blk.lt (Blk.alloc C1.out _)))
          have X2 := hid (Blk.below (Blk.alloc X1.out _) hb (Blk.lt (Blk.alloc X1.out _)))
          have P2 : Hid (Blk w2 (w1.heap.size) 25 #[.int .i64 (nextOut x0 x1 x2 x3 x4 x5 x6 x7 x8 x9), .int .i64 (nextLast x0 x1 x2 x3 x4 x5 x6 x7 x8 x9)]) := hid (Blk.below (Blk.at_new _ (by simp)) hb (by simp <;> omega))
          have B2 : Hid (Below w.heap.size w w2) := hid (Below.trans (Below.alloc B1.out (Nat.le_trans B1.out.size (by simp <;> omega)) _) (hb.mono (Nat.le_trans B1.out.size (by simp <;> omega))))
          clear hb
          clear cG_0 cG_1 cC_0 cC_1 cX_0 cX_1
          have cG_0 : ∀ (i : Nat), w2.cell? ⟨w.heap.size, i, none⟩ = (#[.int .i64 x0, .int .i64 x1, .int .i64 x2, .int .i64 x3, .int .i64 x4, .int .i64 x5] : Array Value)[i]? := Blk.cell G2.out
          have cC_0 : ∀ (i : Nat), w2.cell? ⟨w.heap.size + 1, i, none⟩ = (#[.int .i64 x6, .int .i64 x7] : Array Value)[i]? := Blk.cell C2.out
          have cX_0 : ∀ (i : Nat), w2.cell? ⟨w.heap.size + 1 + 1, i, none⟩ = (#[.int .i64 x8, .int .i64 x9] : Array Value)[i]? := Blk.cell X2.out
          have cP_0 : ∀ (i : Nat), w2.cell? ⟨w1.heap.size, i, none⟩ = (#[.int .i64 (nextOut x0 x1 x2 x3 x4 x5 x6 x7 x8 x9), .int .i64 (nextLast x0 x1 x2 x3 x4 x5 x6 x7 x8 x9)] : Array Value)[i]? := Blk.cell P2.out
          have fC := C2.out.frozen
          have hn := HN.out.1
          have hl := HN.out.2
          go_wp2_with fail
          have l1 : w.heap.size + 1 + 1 < w1.heap.size := X1.out.lt
          refine (step_c _ _ _ _ _ _ _ _ _ _ _).mono ?_
          rintro e w3 ⟨rfl, hb⟩
          have G3 := hid (Blk.below (G2.out.other (a := ⟨w.heap.size + 1, 1, none⟩) (by simp) (.int .i64 0)) hb (by simpa using G2.out.lt))
          have C3 : Hid (Blk w3 (w.heap.size + 1) 25 #[.int .i64 x6, .int .i64 0]) := hid (Blk.below (C2.out.set 1 (.int .i64 0)) hb (by simpa using C2.out.lt))
          have P3 := hid (Blk.below (P2.out.other (a := ⟨w.heap.size + 1, 1, none⟩) (by simp; omega) (.int .i64 0)) hb (by simpa using P2.out.lt))
          have X3 := hid (Blk.below (X2.out.other (a := ⟨w.heap.size + 1, 1, none⟩) (by simp) (.int .i64 0)) hb (by simpa using X2.out.lt))
          have B3 : Hid (Below w.heap.size w w3) := hid ((Below.setCell B2.out (by simp) _).trans (hb.mono (Nat.le_trans B2.out.size (by simp))))
          clear hb cG_0 cC_0 cX_0 cP_0 fC
          have cG : ∀ u0 u1 i, ((w3.setCell ⟨w1.heap.size, 0, none⟩ u0).setCell ⟨w1.heap.size, 1, none⟩ u1).cell? ⟨w.heap.size, i, none⟩ = (#[.int .i64 x0, .int .i64 x1, .int .i64 x2, .int .i64 x3, .int .i64 x4, .int .i64 x5] : Array Value)[i]? := fun u0 u1 => Blk.cell (Blk.other (Blk.other G3.out (by simp; omega) _) (by simp; omega) _)
          have cC : ∀ u0 u1 i, ((w3.setCell ⟨w1.heap.size, 0, none⟩ u0).setCell ⟨w1.heap.size, 1, none⟩ u1).cell? ⟨w.heap.size + 1, i, none⟩ = (#[.int .i64 x6, .int .i64 0] : Array Value)[i]? := fun u0 u1 => Blk.cell (Blk.other (Blk.other C3.out (by simp; omega) _) (by simp; omega) _)
          have cP : ∀ u0 u1 i, ((w3.setCell ⟨w1.heap.size, 0, none⟩ u0).setCell ⟨w1.heap.size, 1, none⟩ u1).cell? ⟨w1.heap.size, i, none⟩ = (#[u0, u1] : Array Value)[i]? := fun u0 u1 => Blk.cell (Blk.set (Blk.set P3.out 0 u0) 1 u1)
          have cX : ∀ u0 u1 i, ((w3.setCell ⟨w1.heap.size, 0, none⟩ u0).setCell ⟨w1.heap.size, 1, none⟩ u1).cell? ⟨w.heap.size + 1 + 1, i, none⟩ = (#[.int .i64 x8, .int .i64 x9] : Array Value)[i]? := fun u0 u1 => Blk.cell (Blk.other (Blk.other X3.out (by simp; omega) _) (by simp; omega) _)
          have c0 := P3.out.cell
          have f0 := P3.out.frozen
          clear l1
          have hn2 := N2.out.1
          have hl2 := N2.out.2
          go_wp2_with fail
          refine (settled_any _ _ _ _ _ _ _ _ _ _ _).mono ?_
          rintro e w4 ⟨rfl, hb⟩
          have B4 : Hid (Below w.heap.size w w4) := hid (Below.trans (Below.setCell (Below.setCell B3.out (by have := B1.out.size; simp; omega) _) (by have := B1.out.size; simp; omega) _) (hb.mono (by have := B3.out.size; simp; omega)))
          clear hb cG cC cP cX c0 f0
          go_wp2_with fail
          refine (awake_any _).mono ?_
          rintro e w5 ⟨rfl, hb⟩
          have B5 : Hid (Below w.heap.size w w5) := hid (B4.out.trans (hb.mono B4.out.size))
          clear hb
          go_wp2
          go_ret
          exact ⟨rfl, B5.out⟩
        · have e3 : (stepErr x0 x1 x2 x3 x4 x5 x6 0 x8 x8 != 0) = true := by simpa using e2
          go_enter Try.func8, Try.ntmps8
          go_wp2_with fail
          refine (step_c _ _ _ _ _ _ _ _ _ _ _).mono ?_
          rintro e w1 ⟨rfl, hb⟩
          have G1 : Hid (Blk w1 (w.heap.size) 23 #[.int .i64 x0, .int .i64 x1, .int .i64 x2, .int .i64 x3, .int .i64 x4, .int .i64 x5]) := hid (Blk.below (Blk.alloc (Blk.alloc (Blk.at_new _ (by simp)) _) _) hb (by simp <;> omega))
          have C1 : Hid (Blk w1 (w.heap.size + 1) 25 #[.int .i64 x6, .int .i64 x7]) := hid (Blk.below (Blk.alloc (Blk.at_new _ (by simp)) _) hb (by simp <;> omega))
          have X1 : Hid (Blk w1 (w.heap.size + 1 + 1) 35 #[.int .i64 x8, .int .i64 x9]) := hid (Blk.below (Blk.at_new _ (by simp)) hb (by simp <;> omega))
          have B1 : Hid (Below w.heap.size w w1) := hid (Below.trans ((((Below.refl _ _).alloc (by simp <;> omega) _).alloc (by simp <;> omega) _).alloc (by simp <;> omega) _) (hb.mono (by simp <;> omega)))
          clear hb
          have cG_0 : ∀ (i : Nat), w1.cell? ⟨w.heap.size, i, none⟩ = (#[.int .i64 x0, .int .i64 x1, .int .i64 x2, .int .i64 x3, .int .i64 x4, .int .i64 x5] : Array Value)[i]? := Blk.cell G1.out
          have cG_1 : ∀ (o0 : Obj) (i : Nat), (w1.alloc o0).cell? ⟨w.heap.size, i, none⟩ = (#[.int .i64 x0, .int .i64 x1, .int .i64 x2, .int .i64 x3, .int .i64 x4, .int .i64 x5] : Array Value)[i]? := fun _ => Blk.cell (Blk.alloc G1.out _)
          have cC_0 : ∀ (i : Nat), w1.cell? ⟨w.heap.size + 1, i, none⟩ = (#[.int .i64 x6, .int .i64 x7] : Array Value)[i]? := Blk.cell C1.out
          have cC_1 : ∀ (o0 : Obj) (i : Nat), (w1.alloc o0).cell? ⟨w.heap.size + 1, i, none⟩ = (#[.int .i64 x6, .int .i64 x7] : Array Value)[i]? := fun _ => Blk.cell (Blk.alloc C1.out _)
          have cX_0 : ∀ (i : Nat), w1.cell? ⟨w.heap.size + 1 + 1, i, none⟩ = (#[.int .i64 x8, .int .i64 x9] : Array Value)[i]? := Blk.cell X1.out
          have cX_1 : ∀ (o0 : Obj) (i : Nat), (w1.alloc o0).cell? ⟨w.heap.size + 1 + 1, i, none⟩ = (#[.int .i64 x8, .int .i64 x9] : Array Value)[i]? := fun _ => Blk.cell (Blk.alloc X1.out _)
          go_wp2_with fail
          refine (settled_any _ _ _ _ _ _ _ _ _ _ _).mono ?_
          rintro e w2 ⟨rfl, hb⟩
          have G2 := hid (Blk.below (Blk.alloc G1.out _) hb (Blk.lt (Blk.alloc G1.out _)))
          have C2 := hid (Blk.below (Blk.alloc C1.out _) hb (Blk.lt (Blk.alloc C1.out _)))
          have X2 := hid (Blk.below (Blk.alloc X1.out _) hb (Blk.lt (Blk.alloc X1.out _)))
          have P2 : Hid (Blk w2 (w1.heap.size) 25 #[.int .i64 (nextOut x0 x1 x2 x3 x4 x5 x6 x7 x8 x9), .int .i64 (nextLast x0 x1 x2 x3 x4 x5 x6 x7 x8 x9)]) := hid (Blk.below (Blk.at_new _ (by simp)) hb (by simp <;> omega))
          have B2 : Hid (Below w.heap.size w w2) := hid (Below.trans (Below.alloc B1.out (Nat.le_trans B1.out.size (by simp <;> omega)) _) (hb.mono (Nat.le_trans B1.out.size (by simp <;> omega))))
          clear hb
          clear cG_0 cG_1 cC_0 cC_1 cX_0 cX_1
          have cG_0 : ∀ (i : Nat), w2.cell? ⟨w.heap.size, i, none⟩ = (#[.int .i64 x0, .int .i64 x1, .int .i64 x2, .int .i64 x3, .int .i64 x4, .int .i64 x5] : Array Value)[i]? := Blk.cell G2.out
          have cC_0 : ∀ (i : Nat), w2.cell? ⟨w.heap.size + 1, i, none⟩ = (#[.int .i64 x6, .int .i64 x7] : Array Value)[i]? := Blk.cell C2.out
          have cX_0 : ∀ (i : Nat), w2.cell? ⟨w.heap.size + 1 + 1, i, none⟩ = (#[.int .i64 x8, .int .i64 x9] : Array Value)[i]? := Blk.cell X2.out
          have cP_0 : ∀ (i : Nat), w2.cell? ⟨w1.heap.size, i, none⟩ = (#[.int .i64 (nextOut x0 x1 x2 x3 x4 x5 x6 x7 x8 x9), .int .i64 (nextLast x0 x1 x2 x3 x4 x5 x6 x7 x8 x9)] : Array Value)[i]? := Blk.cell P2.out
          have fC := C2.out.frozen
          have hn := HN.out.1
          have hl := HN.out.2
          go_wp2_with fail
          have l1 : w.heap.size + 1 + 1 < w1.heap.size := X1.out.lt
          refine (step_c _ _ _ _ _ _ _ _ _ _ _).mono ?_
          rintro e w3 ⟨rfl, hb⟩
          have G3 := hid (Blk.below (G2.out.other (a := ⟨w.heap.size + 1, 1, none⟩) (by simp) (.int .i64 0)) hb (by simpa using G2.out.lt))
          have C3 : Hid (Blk w3 (w.heap.size + 1) 25 #[.int .i64 x6, .int .i64 0]) := hid (Blk.below (C2.out.set 1 (.int .i64 0)) hb (by simpa using C2.out.lt))
          have P3 := hid (Blk.below (P2.out.other (a := ⟨w.heap.size + 1, 1, none⟩) (by simp; omega) (.int .i64 0)) hb (by simpa using P2.out.lt))
          have X3 := hid (Blk.below (X2.out.other (a := ⟨w.heap.size + 1, 1, none⟩) (by simp) (.int .i64 0)) hb (by simpa using X2.out.lt))
          have B3 : Hid (Below w.heap.size w w3) := hid ((Below.setCell B2.out (by simp) _).trans (hb.mono (Nat.le_trans B2.out.size (by simp))))
          clear hb cG_0 cC_0 cX_0 cP_0 fC
          have cG : ∀ u0 u1 i, ((w3.setCell ⟨w1.heap.size, 0, none⟩ u0).setCell ⟨w1.heap.size, 1, none⟩ u1).cell? ⟨w.heap.size, i, none⟩ = (#[.int .i64 x0, .int .i64 x1, .int .i64 x2, .int .i64 x3, .int .i64 x4, .int .i64 x5] : Array Value)[i]? := fun u0 u1 => Blk.cell (Blk.other (Blk.other G3.out (by simp; omega) _) (by simp; omega) _)
          have cC : ∀ u0 u1 i, ((w3.setCell ⟨w1.heap.size, 0, none⟩ u0).setCell ⟨w1.heap.size, 1, none⟩ u1).cell? ⟨w.heap.size + 1, i, none⟩ = (#[.int .i64 x6, .int .i64 0] : Array Value)[i]? := fun u0 u1 => Blk.cell (Blk.other (Blk.other C3.out (by simp; omega) _) (by simp; omega) _)
          have cP : ∀ u0 u1 i, ((w3.setCell ⟨w1.heap.size, 0, none⟩ u0).setCell ⟨w1.heap.size, 1, none⟩ u1).cell? ⟨w1.heap.size, i, none⟩ = (#[u0, u1] : Array Value)[i]? := fun u0 u1 => Blk.cell (Blk.set (Blk.set P3.out 0 u0) 1 u1)
          have cX : ∀ u0 u1 i, ((w3.setCell ⟨w1.heap.size, 0, none⟩ u0).setCell ⟨w1.heap.size, 1, none⟩ u1).cell? ⟨w.heap.size + 1 + 1, i, none⟩ = (#[.int .i64 x8, .int .i64 x9] : Array Value)[i]? := fun u0 u1 => Blk.cell (Blk.other (Blk.other X3.out (by simp; omega) _) (by simp; omega) _)
          have c0 := P3.out.cell
          have f0 := P3.out.frozen
          clear l1
          go_wp2_with fail
          refine (awake_any _).mono ?_
          rintro e w4 ⟨rfl, hb⟩
          have B4 : Hid (Below w.heap.size w w4) := hid (Below.trans (Below.setCell (Below.setCell B3.out (by have := B1.out.size; simp; omega) _) (by have := B1.out.size; simp; omega) _) (hb.mono (by have := B3.out.size; simp; omega)))
          clear hb cG cC cP cX c0 f0
          go_wp2
          go_ret
          exact ⟨rfl, B4.out⟩
      · have hs : settledB x0 x1 x2 x3 x4 x5 x6 x7 x8 x9 = false := by rw [next_last e1] at n2; simp [settledB, n2]
        have HN : Hid (nextOut x0 x1 x2 x3 x4 x5 x6 x7 x8 x9 = x6 ∧ (nextLast x0 x1 x2 x3 x4 x5 x6 x7 x8 x9 == x7) = false) := hid ⟨n1, by simpa using n2⟩
        clear n1
        by_cases e2 : stepErr x0 x1 x2 x3 x4 x5 x6 0 x8 x8 = 0
        · have hs2 : settledB x0 x1 x2 x3 x4 x5 x6 0 x8 x8 = true := rest_set e2
          have N2 : Hid (nextOut x0 x1 x2 x3 x4 x5 x6 0 x8 x8 = x6 ∧ nextLast x0 x1 x2 x3 x4 x5 x6 0 x8 x8 = 0) := hid (rest_next e2)
          go_enter Try.func8, Try.ntmps8
          go_wp2_with fail
          refine (step_c _ _ _ _ _ _ _ _ _ _ _).mono ?_
          rintro e w1 ⟨rfl, hb⟩
          have G1 : Hid (Blk w1 (w.heap.size) 23 #[.int .i64 x0, .int .i64 x1, .int .i64 x2, .int .i64 x3, .int .i64 x4, .int .i64 x5]) := hid (Blk.below (Blk.alloc (Blk.alloc (Blk.at_new _ (by simp)) _) _) hb (by simp <;> omega))
          have C1 : Hid (Blk w1 (w.heap.size + 1) 25 #[.int .i64 x6, .int .i64 x7]) := hid (Blk.below (Blk.alloc (Blk.at_new _ (by simp)) _) hb (by simp <;> omega))
          have X1 : Hid (Blk w1 (w.heap.size + 1 + 1) 35 #[.int .i64 x8, .int .i64 x9]) := hid (Blk.below (Blk.at_new _ (by simp)) hb (by simp <;> omega))
          have B1 : Hid (Below w.heap.size w w1) := hid (Below.trans ((((Below.refl _ _).alloc (by simp <;> omega) _).alloc (by simp <;> omega) _).alloc (by simp <;> omega) _) (hb.mono (by simp <;> omega)))
          clear hb
          have cG_0 : ∀ (i : Nat), w1.cell? ⟨w.heap.size, i, none⟩ = (#[.int .i64 x0, .int .i64 x1, .int .i64 x2, .int .i64 x3, .int .i64 x4, .int .i64 x5] : Array Value)[i]? := Blk.cell G1.out
          have cG_1 : ∀ (o0 : Obj) (i : Nat), (w1.alloc o0).cell? ⟨w.heap.size, i, none⟩ = (#[.int .i64 x0, .int .i64 x1, .int .i64 x2, .int .i64 x3, .int .i64 x4, .int .i64 x5] : Array Value)[i]? := fun _ => Blk.cell (Blk.alloc G1.out _)
          have cC_0 : ∀ (i : Nat), w1.cell? ⟨w.heap.size + 1, i, none⟩ = (#[.int .i64 x6, .int .i64 x7] : Array Value)[i]? := Blk.cell C1.out
          have cC_1 : ∀ (o0 : Obj) (i : Nat), (w1.alloc o0).cell? ⟨w.heap.size + 1, i, none⟩ = (#[.int .i64 x6, .int .i64 x7] : Array Value)[i]? := fun _ => Blk.cell (Blk.alloc C1.out _)
          have cX_0 : ∀ (i : Nat), w1.cell? ⟨w.heap.size + 1 + 1, i, none⟩ = (#[.int .i64 x8, .int .i64 x9] : Array Value)[i]? := Blk.cell X1.out
          have cX_1 : ∀ (o0 : Obj) (i : Nat), (w1.alloc o0).cell? ⟨w.heap.size + 1 + 1, i, none⟩ = (#[.int .i64 x8, .int .i64 x9] : Array Value)[i]? := fun _ => Blk.cell (Blk.alloc X1.out _)
          go_wp2_with fail
          refine (settled_any _ _ _ _ _ _ _ _ _ _ _).mono ?_
          rintro e w2 ⟨rfl, hb⟩
          have G2 := hid (Blk.below (Blk.alloc G1.out _) hb (Blk.lt (Blk.alloc G1.out _)))
          have C2 := hid (Blk.below (Blk.alloc C1.out _) hb (Blk.lt (Blk.alloc C1.out _)))
          have X2 := hid (Blk.below (Blk.alloc X1.out _) hb (Blk.lt (Blk.alloc X1.out _)))
          have P2 : Hid (Blk w2 (w1.heap.size) 25 #[.int .i64 (nextOut x0 x1 x2 x3 x4 x5 x6 x7 x8 x9), .int .i64 (nextLast x0 x1 x2 x3 x4 x5 x6 x7 x8 x9)]) := hid (Blk.below (Blk.at_new _ (by simp)) hb (by simp <;> omega))
          have B2 : Hid (Below w.heap.size w w2) := hid (Below.trans (Below.alloc B1.out (Nat.le_trans B1.out.size (by simp <;> omega)) _) (hb.mono (Nat.le_trans B1.out.size (by simp <;> omega))))
          clear hb
          clear cG_0 cG_1 cC_0 cC_1 cX_0 cX_1
          have cG_0 : ∀ (i : Nat), w2.cell? ⟨w.heap.size, i, none⟩ = (#[.int .i64 x0, .int .i64 x1, .int .i64 x2, .int .i64 x3, .int .i64 x4, .int .i64 x5] : Array Value)[i]? := Blk.cell G2.out
          have cC_0 : ∀ (i : Nat), w2.cell? ⟨w.heap.size + 1, i, none⟩ = (#[.int .i64 x6, .int .i64 x7] : Array Value)[i]? := Blk.cell C2.out
          have cX_0 : ∀ (i : Nat), w2.cell? ⟨w.heap.size + 1 + 1, i, none⟩ = (#[.int .i64 x8, .int .i64 x9] : Array Value)[i]? := Blk.cell X2.out
          have cP_0 : ∀ (i : Nat), w2.cell? ⟨w1.heap.size, i, none⟩ = (#[.int .i64 (nextOut x0 x1 x2 x3 x4 x5 x6 x7 x8 x9), .int .i64 (nextLast x0 x1 x2 x3 x4 x5 x6 x7 x8 x9)] : Array Value)[i]? := Blk.cell P2.out
          have fC := C2.out.frozen
          have hn := HN.out.1
          have hl := HN.out.2
          go_wp2_with fail
          have l1 : w.heap.size + 1 + 1 < w1.heap.size := X1.out.lt
          refine (step_c _ _ _ _ _ _ _ _ _ _ _).mono ?_
          rintro e w3 ⟨rfl, hb⟩
          have G3 := hid (Blk.below (G2.out.other (a := ⟨w.heap.size + 1, 1, none⟩) (by simp) (.int .i64 0)) hb (by simpa using G2.out.lt))
          have C3 : Hid (Blk w3 (w.heap.size + 1) 25 #[.int .i64 x6, .int .i64 0]) := hid (Blk.below (C2.out.set 1 (.int .i64 0)) hb (by simpa using C2.out.lt))
          have P3 := hid (Blk.below (P2.out.other (a := ⟨w.heap.size + 1, 1, none⟩) (by simp; omega) (.int .i64 0)) hb (by simpa using P2.out.lt))
          have X3 := hid (Blk.below (X2.out.other (a := ⟨w.heap.size + 1, 1, none⟩) (by simp) (.int .i64 0)) hb (by simpa using X2.out.lt))
          have B3 : Hid (Below w.heap.size w w3) := hid ((Below.setCell B2.out (by simp) _).trans (hb.mono (Nat.le_trans B2.out.size (by simp))))
          clear hb cG_0 cC_0 cX_0 cP_0 fC
          have cG : ∀ u0 u1 i, ((w3.setCell ⟨w1.heap.size, 0, none⟩ u0).setCell ⟨w1.heap.size, 1, none⟩ u1).cell? ⟨w.heap.size, i, none⟩ = (#[.int .i64 x0, .int .i64 x1, .int .i64 x2, .int .i64 x3, .int .i64 x4, .int .i64 x5] : Array Value)[i]? := fun u0 u1 => Blk.cell (Blk.other (Blk.other G3.out (by simp; omega) _) (by simp; omega) _)
          have cC : ∀ u0 u1 i, ((w3.setCell ⟨w1.heap.size, 0, none⟩ u0).setCell ⟨w1.heap.size, 1, none⟩ u1).cell? ⟨w.heap.size + 1, i, none⟩ = (#[.int .i64 x6, .int .i64 0] : Array Value)[i]? := fun u0 u1 => Blk.cell (Blk.other (Blk.other C3.out (by simp; omega) _) (by simp; omega) _)
          have cP : ∀ u0 u1 i, ((w3.setCell ⟨w1.heap.size, 0, none⟩ u0).setCell ⟨w1.heap.size, 1, none⟩ u1).cell? ⟨w1.heap.size, i, none⟩ = (#[u0, u1] : Array Value)[i]? := fun u0 u1 => Blk.cell (Blk.set (Blk.set P3.out 0 u0) 1 u1)
          have cX : ∀ u0 u1 i, ((w3.setCell ⟨w1.heap.size, 0, none⟩ u0).setCell ⟨w1.heap.size, 1, none⟩ u1).cell? ⟨w.heap.size + 1 + 1, i, none⟩ = (#[.int .i64 x8, .int .i64 x9] : Array Value)[i]? := fun u0 u1 => Blk.cell (Blk.other (Blk.other X3.out (by simp; omega) _) (by simp; omega) _)
          have c0 := P3.out.cell
          have f0 := P3.out.frozen
          clear l1
          have hn2 := N2.out.1
          have hl2 := N2.out.2
          go_wp2_with fail
          refine (settled_any _ _ _ _ _ _ _ _ _ _ _).mono ?_
          rintro e w4 ⟨rfl, hb⟩
          have B4 : Hid (Below w.heap.size w w4) := hid (Below.trans (Below.setCell (Below.setCell B3.out (by have := B1.out.size; simp; omega) _) (by have := B1.out.size; simp; omega) _) (hb.mono (by have := B3.out.size; simp; omega)))
          clear hb cG cC cP cX c0 f0
          go_wp2_with fail
          refine (awake_any _).mono ?_
          rintro e w5 ⟨rfl, hb⟩
          have B5 : Hid (Below w.heap.size w w5) := hid (B4.out.trans (hb.mono B4.out.size))
          clear hb
          go_wp2
          go_ret
          exact ⟨rfl, B5.out⟩
        · have e3 : (stepErr x0 x1 x2 x3 x4 x5 x6 0 x8 x8 != 0) = true := by simpa using e2
          go_enter Try.func8, Try.ntmps8
          go_wp2_with fail
          refine (step_c _ _ _ _ _ _ _ _ _ _ _).mono ?_
          rintro e w1 ⟨rfl, hb⟩
          have G1 : Hid (Blk w1 (w.heap.size) 23 #[.int .i64 x0, .int .i64 x1, .int .i64 x2, .int .i64 x3, .int .i64 x4, .int .i64 x5]) := hid (Blk.below (Blk.alloc (Blk.alloc (Blk.at_new _ (by simp)) _) _) hb (by simp <;> omega))
          have C1 : Hid (Blk w1 (w.heap.size + 1) 25 #[.int .i64 x6, .int .i64 x7]) := hid (Blk.below (Blk.alloc (Blk.at_new _ (by simp)) _) hb (by simp <;> omega))
          have X1 : Hid (Blk w1 (w.heap.size + 1 + 1) 35 #[.int .i64 x8, .int .i64 x9]) := hid (Blk.below (Blk.at_new _ (by simp)) hb (by simp <;> omega))
          have B1 : Hid (Below w.heap.size w w1) := hid (Below.trans ((((Below.refl _ _).alloc (by simp <;> omega) _).alloc (by simp <;> omega) _).alloc (by simp <;> omega) _) (hb.mono (by simp <;> omega)))
          clear hb
          have cG_0 : ∀ (i : Nat), w1.cell? ⟨w.heap.size, i, none⟩ = (#[.int .i64 x0, .int .i64 x1, .int .i64 x2, .int .i64 x3, .int .i64 x4, .int .i64 x5] : Array Value)[i]? := Blk.cell G1.out
          have cG_1 : ∀ (o0 : Obj) (i : Nat), (w1.alloc o0).cell? ⟨w.heap.size, i, none⟩ = (#[.int .i64 x0, .int .i64 x1, .int .i64 x2, .int .i64 x3, .int .i64 x4, .int .i64 x5] : Array Value)[i]? := fun _ => Blk.cell (Blk.alloc G1.out _)
          have cC_0 : ∀ (i : Nat), w1.cell? ⟨w.heap.size + 1, i, none⟩ = (#[.int .i64 x6, .int .i64 x7] : Array Value)[i]? := Blk.cell C1.out
          have cC_1 : ∀ (o0 : Obj) (i : Nat), (w1.alloc o0).cell? ⟨w.heap.size + 1, i, none⟩ = (#[.int .i64 x6, .int .i64 x7] : Array Value)[i]? := fun _ => Blk.cell (Blk.alloc C1.out _)
          have cX_0 : ∀ (i : Nat), w1.cell? ⟨w.heap.size + 1 + 1, i, none⟩ = (#[.int .i64 x8, .int .i64 x9] : Array Value)[i]? := Blk.cell X1.out
          have cX_1 : ∀ (o0 : Obj) (i : Nat), (w1.alloc o0).cell? ⟨w.heap.size + 1 + 1, i, none⟩ = (#[.int .i64 x8, .int .i64 x9] : Array Value)[i]? := fun _ => Blk.cell (Blk.alloc X1.out _)
          go_wp2_with fail
          refine (settled_any _ _ _ _ _ _ _ _ _ _ _).mono ?_
          rintro e w2 ⟨rfl, hb⟩
          have G2 := hid (Blk.below (Blk.alloc G1.out _) hb (Blk.lt (Blk.alloc G1.out _)))
          have C2 := hid (Blk.below (Blk.alloc C1.out _) hb (Blk.lt (Blk.alloc C1.out _)))
          have X2 := hid (Blk.below (Blk.alloc X1.out _) hb (Blk.lt (Blk.alloc X1.out _)))
          have P2 : Hid (Blk w2 (w1.heap.size) 25 #[.int .i64 (nextOut x0 x1 x2 x3 x4 x5 x6 x7 x8 x9), .int .i64 (nextLast x0 x1 x2 x3 x4 x5 x6 x7 x8 x9)]) := hid (Blk.below (Blk.at_new _ (by simp)) hb (by simp <;> omega))
          have B2 : Hid (Below w.heap.size w w2) := hid (Below.trans (Below.alloc B1.out (Nat.le_trans B1.out.size (by simp <;> omega)) _) (hb.mono (Nat.le_trans B1.out.size (by simp <;> omega))))
          clear hb
          clear cG_0 cG_1 cC_0 cC_1 cX_0 cX_1
          have cG_0 : ∀ (i : Nat), w2.cell? ⟨w.heap.size, i, none⟩ = (#[.int .i64 x0, .int .i64 x1, .int .i64 x2, .int .i64 x3, .int .i64 x4, .int .i64 x5] : Array Value)[i]? := Blk.cell G2.out
          have cC_0 : ∀ (i : Nat), w2.cell? ⟨w.heap.size + 1, i, none⟩ = (#[.int .i64 x6, .int .i64 x7] : Array Value)[i]? := Blk.cell C2.out
          have cX_0 : ∀ (i : Nat), w2.cell? ⟨w.heap.size + 1 + 1, i, none⟩ = (#[.int .i64 x8, .int .i64 x9] : Array Value)[i]? := Blk.cell X2.out
          have cP_0 : ∀ (i : Nat), w2.cell? ⟨w1.heap.size, i, none⟩ = (#[.int .i64 (nextOut x0 x1 x2 x3 x4 x5 x6 x7 x8 x9), .int .i64 (nextLast x0 x1 x2 x3 x4 x5 x6 x7 x8 x9)] : Array Value)[i]? := Blk.cell P2.out
          have fC := C2.out.frozen
          have hn := HN.out.1
          have hl := HN.out.2
          go_wp2_with fail
          have l1 : w.heap.size + 1 + 1 < w1.heap.size := X1.out.lt
          refine (step_c _ _ _ _ _ _ _ _ _ _ _).mono ?_
          rintro e w3 ⟨rfl, hb⟩
          have G3 := hid (Blk.below (G2.out.other (a := ⟨w.heap.size + 1, 1, none⟩) (by simp) (.int .i64 0)) hb (by simpa using G2.out.lt))
          have C3 : Hid (Blk w3 (w.heap.size + 1) 25 #[.int .i64 x6, .int .i64 0]) := hid (Blk.below (C2.out.set 1 (.int .i64 0)) hb (by simpa using C2.out.lt))
          have P3 := hid (Blk.below (P2.out.other (a := ⟨w.heap.size + 1, 1, none⟩) (by simp; omega) (.int .i64 0)) hb (by simpa using P2.out.lt))
          have X3 := hid (Blk.below (X2.out.other (a := ⟨w.heap.size + 1, 1, none⟩) (by simp) (.int .i64 0)) hb (by simpa using X2.out.lt))
          have B3 : Hid (Below w.heap.size w w3) := hid ((Below.setCell B2.out (by simp) _).trans (hb.mono (Nat.le_trans B2.out.size (by simp))))
          clear hb cG_0 cC_0 cX_0 cP_0 fC
          have cG : ∀ u0 u1 i, ((w3.setCell ⟨w1.heap.size, 0, none⟩ u0).setCell ⟨w1.heap.size, 1, none⟩ u1).cell? ⟨w.heap.size, i, none⟩ = (#[.int .i64 x0, .int .i64 x1, .int .i64 x2, .int .i64 x3, .int .i64 x4, .int .i64 x5] : Array Value)[i]? := fun u0 u1 => Blk.cell (Blk.other (Blk.other G3.out (by simp; omega) _) (by simp; omega) _)
          have cC : ∀ u0 u1 i, ((w3.setCell ⟨w1.heap.size, 0, none⟩ u0).setCell ⟨w1.heap.size, 1, none⟩ u1).cell? ⟨w.heap.size + 1, i, none⟩ = (#[.int .i64 x6, .int .i64 0] : Array Value)[i]? := fun u0 u1 => Blk.cell (Blk.other (Blk.other C3.out (by simp; omega) _) (by simp; omega) _)
          have cP : ∀ u0 u1 i, ((w3.setCell ⟨w1.heap.size, 0, none⟩ u0).setCell ⟨w1.heap.size, 1, none⟩ u1).cell? ⟨w1.heap.size, i, none⟩ = (#[u0, u1] : Array Value)[i]? := fun u0 u1 => Blk.cell (Blk.set (Blk.set P3.out 0 u0) 1 u1)
          have cX : ∀ u0 u1 i, ((w3.setCell ⟨w1.heap.size, 0, none⟩ u0).setCell ⟨w1.heap.size, 1, none⟩ u1).cell? ⟨w.heap.size + 1 + 1, i, none⟩ = (#[.int .i64 x8, .int .i64 x9] : Array Value)[i]? := fun u0 u1 => Blk.cell (Blk.other (Blk.other X3.out (by simp; omega) _) (by simp; omega) _)
          have c0 := P3.out.cell
          have f0 := P3.out.frozen
          clear l1
          go_wp2_with fail
          refine (awake_any _).mono ?_
          rintro e w4 ⟨rfl, hb⟩
          have B4 : Hid (Below w.heap.size w w4) := hid (Below.trans (Below.setCell (Below.setCell B3.out (by have := B1.out.size; simp; omega) _) (by have := B1.out.size; simp; omega) _) (hb.mono (by have := B3.out.size; simp; omega)))
          clear hb cG cC cP cX c0 f0
          go_wp2
          go_ret
          exact ⟨rfl, B4.out⟩
    · have hs : settledB x0 x1 x2 x3 x4 x5 x6 x7 x8 x9 = false := by rw [next_out e1] at n1; simp [settledB, n1]
      by_cases e2 : stepErr x0 x1 x2 x3 x4 x5 x6 0 x8 x8 = 0
      · have hs2 : settledB x0 x1 x2 x3 x4 x5 x6 0 x8 x8 = true := rest_set e2
        have N2 : Hid (nextOut x0 x1 x2 x3 x4 x5 x6 0 x8 x8 = x6 ∧ nextLast x0 x1 x2 x3 x4 x5 x6 0 x8 x8 = 0) := hid (rest_next e2)
        go_enter Try.func8, Try.ntmps8
        go_wp2_with fail
        refine (step_c _ _ _ _ _ _ _ _ _ _ _).mono ?_
        rintro e w1 ⟨rfl, hb⟩
        have G1 : Hid (Blk w1 (w.heap.size) 23 #[.int .i64 x0, .int .i64 x1, .int .i64 x2, .int .i64 x3, .int .i64 x4, .int .i64 x5]) := hid (Blk.below (Blk.alloc (Blk.alloc (Blk.at_new _ (by simp)) _) _) hb (by simp <;> omega))
        have C1 : Hid (Blk w1 (w.heap.size + 1) 25 #[.int .i64 x6, .int .i64 x7]) := hid (Blk.below (Blk.alloc (Blk.at_new _ (by simp)) _) hb (by simp <;> omega))
        have X1 : Hid (Blk w1 (w.heap.size + 1 + 1) 35 #[.int .i64 x8, .int .i64 x9]) := hid (Blk.below (Blk.at_new _ (by simp)) hb (by simp <;> omega))
        have B1 : Hid (Below w.heap.size w w1) := hid (Below.trans ((((Below.refl _ _).alloc (by simp <;> omega) _).alloc (by simp <;> omega) _).alloc (by simp <;> omega) _) (hb.mono (by simp <;> omega)))
        clear hb
        have cG_0 : ∀ (i : Nat), w1.cell? ⟨w.heap.size, i, none⟩ = (#[.int .i64 x0, .int .i64 x1, .int .i64 x2, .int .i64 x3, .int .i64 x4, .int .i64 x5] : Array Value)[i]? := Blk.cell G1.out
        have cG_1 : ∀ (o0 : Obj) (i : Nat), (w1.alloc o0).cell? ⟨w.heap.size, i, none⟩ = (#[.int .i64 x0, .int .i64 x1, .int .i64 x2, .int .i64 x3, .int .i64 x4, .int .i64 x5] : Array Value)[i]? := fun _ => Blk.cell (Blk.alloc G1.out _)
        have cC_0 : ∀ (i : Nat), w1.cell? ⟨w.heap.size + 1, i, none⟩ = (#[.int .i64 x6, .int .i64 x7] : Array Value)[i]? := Blk.cell C1.out
        have cC_1 : ∀ (o0 : Obj) (i : Nat), (w1.alloc o0).cell? ⟨w.heap.size + 1, i, none⟩ = (#[.int .i64 x6, .int .i64 x7] : Array Value)[i]? := fun _ => Blk.cell (Blk.alloc C1.out _)
        have cX_0 : ∀ (i : Nat), w1.cell? ⟨w.heap.size + 1 + 1, i, none⟩ = (#[.int .i64 x8, .int .i64 x9] : Array Value)[i]? := Blk.cell X1.out
        have cX_1 : ∀ (o0 : Obj) (i : Nat), (w1.alloc o0).cell? ⟨w.heap.size + 1 + 1, i, none⟩ = (#[.int .i64 x8, .int .i64 x9] : Array Value)[i]? := fun _ => Blk.cell (Blk.alloc X1.out _)
        go_wp2_with fail
        refine (settled_any _ _ _ _ _ _ _ _ _ _ _).mono ?_
        rintro e w2 ⟨rfl, hb⟩
        have G2 := hid (Blk.below (Blk.alloc G1.out _) hb (Blk.lt (Blk.alloc G1.out _)))
        have C2 := hid (Blk.below (Blk.alloc C1.out _) hb (Blk.lt (Blk.alloc C1.out _)))
        have X2 := hid (Blk.below (Blk.alloc X1.out _) hb (Blk.lt (Blk.alloc X1.out _)))
        have P2 : Hid (Blk w2 (w1.heap.size) 25 #[.int .i64 (nextOut x0 x1 x2 x3 x4 x5 x6 x7 x8 x9), .int .i64 (nextLast x0 x1 x2 x3 x4 x5 x6 x7 x8 x9)]) := hid (Blk.below (Blk.at_new _ (by simp)) hb (by simp <;> omega))
        have B2 : Hid (Below w.heap.size w w2) := hid (Below.trans (Below.alloc B1.out (Nat.le_trans B1.out.size (by simp <;> omega)) _) (hb.mono (Nat.le_trans B1.out.size (by simp <;> omega))))
        clear hb
        clear cG_0 cG_1 cC_0 cC_1 cX_0 cX_1
        have cG_0 : ∀ (i : Nat), w2.cell? ⟨w.heap.size, i, none⟩ = (#[.int .i64 x0, .int .i64 x1, .int .i64 x2, .int .i64 x3, .int .i64 x4, .int .i64 x5] : Array Value)[i]? := Blk.cell G2.out
        have cC_0 : ∀ (i : Nat), w2.cell? ⟨w.heap.size + 1, i, none⟩ = (#[.int .i64 x6, .int .i64 x7] : Array Value)[i]? := Blk.cell C2.out
        have cX_0 : ∀ (i : Nat), w2.cell? ⟨w.heap.size + 1 + 1, i, none⟩ = (#[.int .i64 x8, .int .i64 x9] : Array Value)[i]? := Blk.cell X2.out
        have cP_0 : ∀ (i : Nat), w2.cell? ⟨w1.heap.size, i, none⟩ = (#[.int .i64 (nextOut x0 x1 x2 x3 x4 x5 x6 x7 x8 x9), .int .i64 (nextLast x0 x1 x2 x3 x4 x5 x6 x7 x8 x9)] : Array Value)[i]? := Blk.cell P2.out
        have fC := C2.out.frozen
        go_wp2_with fail
        have l1 : w.heap.size + 1 + 1 < w1.heap.size := X1.out.lt
        refine (step_c _ _ _ _ _ _ _ _ _ _ _).mono ?_
        rintro e w3 ⟨rfl, hb⟩
        have G3 := hid (Blk.below (G2.out.other (a := ⟨w.heap.size + 1, 1, none⟩) (by simp) (.int .i64 0)) hb (by simpa using G2.out.lt))
        have C3 : Hid (Blk w3 (w.heap.size + 1) 25 #[.int .i64 x6, .int .i64 0]) := hid (Blk.below (C2.out.set 1 (.int .i64 0)) hb (by simpa using C2.out.lt))
        have P3 := hid (Blk.below (P2.out.other (a := ⟨w.heap.size + 1, 1, none⟩) (by simp; omega) (.int .i64 0)) hb (by simpa using P2.out.lt))
        have X3 := hid (Blk.below (X2.out.other (a := ⟨w.heap.size + 1, 1, none⟩) (by simp) (.int .i64 0)) hb (by simpa using X2.out.lt))
        have B3 : Hid (Below w.heap.size w w3) := hid ((Below.setCell B2.out (by simp) _).trans (hb.mono (Nat.le_trans B2.out.size (by simp))))
        clear hb cG_0 cC_0 cX_0 cP_0 fC
        have cG : ∀ u0 u1 i, ((w3.setCell ⟨w1.heap.size, 0, none⟩ u0).setCell ⟨w1.heap.size, 1, none⟩ u1).cell? ⟨w.heap.size, i, none⟩ = (#[.int .i64 x0, .int .i64 x1, .int .i64 x2, .int .i64 x3, .int .i64 x4, .int .i64 x5] : Array Value)[i]? := fun u0 u1 => Blk.cell (Blk.other (Blk.other G3.out (by simp; omega) _) (by simp; omega) _)
        have cC : ∀ u0 u1 i, ((w3.setCell ⟨w1.heap.size, 0, none⟩ u0).setCell ⟨w1.heap.size, 1, none⟩ u1).cell? ⟨w.heap.size + 1, i, none⟩ = (#[.int .i64 x6, .int .i64 0] : Array Value)[i]? := fun u0 u1 => Blk.cell (Blk.other (Blk.other C3.out (by simp; omega) _) (by simp; omega) _)
        have cP : ∀ u0 u1 i, ((w3.setCell ⟨w1.heap.size, 0, none⟩ u0).setCell ⟨w1.heap.size, 1, none⟩ u1).cell? ⟨w1.heap.size, i, none⟩ = (#[u0, u1] : Array Value)[i]? := fun u0 u1 => Blk.cell (Blk.set (Blk.set P3.out 0 u0) 1 u1)
        have cX : ∀ u0 u1 i, ((w3.setCell ⟨w1.heap.size, 0, none⟩ u0).setCell ⟨w1.heap.size, 1, none⟩ u1).cell? ⟨w.heap.size + 1 + 1, i, none⟩ = (#[.int .i64 x8, .int .i64 x9] : Array Value)[i]? := fun u0 u1 => Blk.cell (Blk.other (Blk.other X3.out (by simp; omega) _) (by simp; omega) _)
        have c0 := P3.out.cell
        have f0 := P3.out.frozen
        clear l1
        have hn2 := N2.out.1
        have hl2 := N2.out.2
        go_wp2_with fail
        refine (settled_any _ _ _ _ _ _ _ _ _ _ _).mono ?_
        rintro e w4 ⟨rfl, hb⟩
        have B4 : Hid (Below w.heap.size w w4) := hid (Below.trans (Below.setCell (Below.setCell B3.out (by have := B1.out.size; simp; omega) _) (by have := B1.out.size; simp; omega) _) (hb.mono (by have := B3.out.size; simp; omega)))
        clear hb cG cC cP cX c0 f0
        go_wp2_with fail
        refine (awake_any _).mono ?_
        rintro e w5 ⟨rfl, hb⟩
        have B5 : Hid (Below w.heap.size w w5) := hid (B4.out.trans (hb.mono B4.out.size))
        clear hb
        go_wp2
        go_ret
        exact ⟨rfl, B5.out⟩
      · have e3 : (stepErr x0 x1 x2 x3 x4 x5 x6 0 x8 x8 != 0) = true := by simpa using e2
        go_enter Try.func8, Try.ntmps8
        go_wp2_with fail
        refine (step_c _ _ _ _ _ _ _ _ _ _ _).mono ?_
        rintro e w1 ⟨rfl, hb⟩
        have G1 : Hid (Blk w1 (w.heap.size) 23 #[.int .i64 x0, .int .i64 x1, .int .i64 x2, .int .i64 x3, .int .i64 x4, .int .i64 x5]) := hid (Blk.below (Blk.alloc (Blk.alloc (Blk.at_new _ (by simp)) _) _) hb (by simp <;> omega))
        have C1 : Hid (Blk w1 (w.heap.size + 1) 25 #[.int .i64 x6, .int .i64 x7]) := hid (Blk.below (Blk.alloc (Blk.at_new _ (by simp)) _) hb (by simp <;> omega))
        have X1 : Hid (Blk w1 (w.heap.size + 1 + 1) 35 #[.int .i64 x8, .int .i64 x9]) := hid (Blk.below (Blk.at_new _ (by simp)) hb (by simp <;> omega))
        have B1 : Hid (Below w.heap.size w w1) := hid (Below.trans ((((Below.refl _ _).alloc (by simp <;> omega) _).alloc (by simp <;> omega) _).alloc (by simp <;> omega) _) (hb.mono (by simp <;> omega)))
        clear hb
        have cG_0 : ∀ (i : Nat), w1.cell? ⟨w.heap.size, i, none⟩ = (#[.int .i64 x0, .int .i64 x1, .int .i64 x2, .int .i64 x3, .int .i64 x4, .int .i64 x5] : Array Value)[i]? := Blk.cell G1.out
        have cG_1 : ∀ (o0 : Obj) (i : Nat), (w1.alloc o0).cell? ⟨w.heap.size, i, none⟩ = (#[.int .i64 x0, .int .i64 x1, .int .i64 x2, .int .i64 x3, .int .i64 x4, .int .i64 x5] : Array Value)[i]? := fun _ => Blk.cell (Blk.alloc G1.out _)
        have cC_0 : ∀ (i : Nat), w1.cell? ⟨w.heap.size + 1, i, none⟩ = (#[.int .i64 x6, .int .i64 x7] : Array Value)[i]? := Blk.cell C1.out
        have cC_1 : ∀ (o0 : Obj) (i : Nat), (w1.alloc o0).cell? ⟨w.heap.size + 1, i, none⟩ = (#[.int .i64 x6, .int .i64 x7] : Array Value)[i]? := fun _ => Blk.cell (Blk.alloc C1.out _)
        have cX_0 : ∀ (i : Nat), w1.cell? ⟨w.heap.size + 1 + 1, i, none⟩ = (#[.int .i64 x8, .int .i64 x9] : Array Value)[i]? := Blk.cell X1.out
        have cX_1 : ∀ (o0 : Obj) (i : Nat), (w1.alloc o0).cell? ⟨w.heap.size + 1 + 1, i, none⟩ = (#[.int .i64 x8, .int .i64 x9] : Array Value)[i]? := fun _ => Blk.cell (Blk.alloc X1.out _)
        go_wp2_with fail
        refine (settled_any _ _ _ _ _ _ _ _ _ _ _).mono ?_
        rintro e w2 ⟨rfl, hb⟩
        have G2 := hid (Blk.below (Blk.alloc G1.out _) hb (Blk.lt (Blk.alloc G1.out _)))
        have C2 := hid (Blk.below (Blk.alloc C1.out _) hb (Blk.lt (Blk.alloc C1.out _)))
        have X2 := hid (Blk.below (Blk.alloc X1.out _) hb (Blk.lt (Blk.alloc X1.out _)))
        have P2 : Hid (Blk w2 (w1.heap.size) 25 #[.int .i64 (nextOut x0 x1 x2 x3 x4 x5 x6 x7 x8 x9), .int .i64 (nextLast x0 x1 x2 x3 x4 x5 x6 x7 x8 x9)]) := hid (Blk.below (Blk.at_new _ (by simp)) hb (by simp <;> omega))
        have B2 : Hid (Below w.heap.size w w2) := hid (Below.trans (Below.alloc B1.out (Nat.le_trans B1.out.size (by simp <;> omega)) _) (hb.mono (Nat.le_trans B1.out.size (by simp <;> omega))))
        clear hb
        clear cG_0 cG_1 cC_0 cC_1 cX_0 cX_1
        have cG_0 : ∀ (i : Nat), w2.cell? ⟨w.heap.size, i, none⟩ = (#[.int .i64 x0, .int .i64 x1, .int .i64 x2, .int .i64 x3, .int .i64 x4, .int .i64 x5] : Array Value)[i]? := Blk.cell G2.out
        have cC_0 : ∀ (i : Nat), w2.cell? ⟨w.heap.size + 1, i, none⟩ = (#[.int .i64 x6, .int .i64 x7] : Array Value)[i]? := Blk.cell C2.out
        have cX_0 : ∀ (i : Nat), w2.cell? ⟨w.heap.size + 1 + 1, i, none⟩ = (#[.int .i64 x8, .int .i64 x9] : Array Value)[i]? := Blk.cell X2.out
        have cP_0 : ∀ (i : Nat), w2.cell? ⟨w1.heap.size, i, none⟩ = (#[.int .i64 (nextOut x0 x1 x2 x3 x4 x5 x6 x7 x8 x9), .int .i64 (nextLast x0 x1 x2 x3 x4 x5 x6 x7 x8 x9)] : Array Value)[i]? := Blk.cell P2.out
        have fC := C2.out.frozen
        go_wp2_with fail
        have l1 : w.heap.size + 1 + 1 < w1.heap.size := X1.out.lt
        refine (step_c _ _ _ _ _ _ _ _ _ _ _).mono ?_
        rintro e w3 ⟨rfl, hb⟩
        have G3 := hid (Blk.below (G2.out.other (a := ⟨w.heap.size + 1, 1, none⟩) (by simp) (.int .i64 0)) hb (by simpa using G2.out.lt))
        have C3 : Hid (Blk w3 (w.heap.size + 1) 25 #[.int .i64 x6, .int .i64 0]) := hid (Blk.below (C2.out.set 1 (.int .i64 0)) hb (by simpa using C2.out.lt))
        have P3 := hid (Blk.below (P2.out.other (a := ⟨w.heap.size + 1, 1, none⟩) (by simp; omega) (.int .i64 0)) hb (by simpa using P2.out.lt))
        have X3 := hid (Blk.below (X2.out.other (a := ⟨w.heap.size + 1, 1, none⟩) (by simp) (.int .i64 0)) hb (by simpa using X2.out.lt))
        have B3 : Hid (Below w.heap.size w w3) := hid ((Below.setCell B2.out (by simp) _).trans (hb.mono (Nat.le_trans B2.out.size (by simp))))
        clear hb cG_0 cC_0 cX_0 cP_0 fC
        have cG : ∀ u0 u1 i, ((w3.setCell ⟨w1.heap.size, 0, none⟩ u0).setCell ⟨w1.heap.size, 1, none⟩ u1).cell? ⟨w.heap.size, i, none⟩ = (#[.int .i64 x0, .int .i64 x1, .int .i64 x2, .int .i64 x3, .int .i64 x4, .int .i64 x5] : Array Value)[i]? := fun u0 u1 => Blk.cell (Blk.other (Blk.other G3.out (by simp; omega) _) (by simp; omega) _)
        have cC : ∀ u0 u1 i, ((w3.setCell ⟨w1.heap.size, 0, none⟩ u0).setCell ⟨w1.heap.size, 1, none⟩ u1).cell? ⟨w.heap.size + 1, i, none⟩ = (#[.int .i64 x6, .int .i64 0] : Array Value)[i]? := fun u0 u1 => Blk.cell (Blk.other (Blk.other C3.out (by simp; omega) _) (by simp; omega) _)
        have cP : ∀ u0 u1 i, ((w3.setCell ⟨w1.heap.size, 0, none⟩ u0).setCell ⟨w1.heap.size, 1, none⟩ u1).cell? ⟨w1.heap.size, i, none⟩ = (#[u0, u1] : Array Value)[i]? := fun u0 u1 => Blk.cell (Blk.set (Blk.set P3.out 0 u0) 1 u1)
        have cX : ∀ u0 u1 i, ((w3.setCell ⟨w1.heap.size, 0, none⟩ u0).setCell ⟨w1.heap.size, 1, none⟩ u1).cell? ⟨w.heap.size + 1 + 1, i, none⟩ = (#[.int .i64 x8, .int .i64 x9] : Array Value)[i]? := fun u0 u1 => Blk.cell (Blk.other (Blk.other X3.out (by simp; omega) _) (by simp; omega) _)
        have c0 := P3.out.cell
        have f0 := P3.out.frozen
        clear l1
        go_wp2_with fail
        refine (awake_any _).mono ?_
        rintro e w4 ⟨rfl, hb⟩
        have B4 : Hid (Below w.heap.size w w4) := hid (Below.trans (Below.setCell (Below.setCell B3.out (by have := B1.out.size; simp; omega) _) (by have := B1.out.size; simp; omega) _) (hb.mono (by have := B3.out.size; simp; omega)))
        clear hb cG cC cP cX c0 f0
        go_wp2
        go_ret
        exact ⟨rfl, B4.out⟩
  · have hs : settledB x0 x1 x2 x3 x4 x5 x6 x7 x8 x9 = false := by simp [settledB, e1]
    have e4 : (stepErr x0 x1 x2 x3 x4 x5 x6 x7 x8 x9 == 0) = false := by simpa using e1
    by_cases e2 : stepErr x0 x1 x2 x3 x4 x5 x6 0 x8 x8 = 0
    · have hs2 : settledB x0 x1 x2 x3 x4 x5 x6 0 x8 x8 = true := rest_set e2
      have N2 : Hid (nextOut x0 x1 x2 x3 x4 x5 x6 0 x8 x8 = x6 ∧ nextLast x0 x1 x2 x3 x4 x5 x6 0 x8 x8 = 0) := hid (rest_next e2)
      go_enter Try.func8, Try.ntmps8
      go_wp2_with fail
      refine (step_c _ _ _ _ _ _ _ _ _ _ _).mono ?_
      rintro e w1 ⟨rfl, hb⟩
      have G1 : Hid (Blk w1 (w.heap.size) 23 #[.int .i64 x0, .int .i64 x1, .int .i64 x2, .int .i64 x3, .int .i64 x4, .int .i64 x5]) := hid (Blk.below (Blk.alloc (Blk.alloc (Blk.at_new _ (by simp)) _) _) hb (by simp <;> omega))
      have C1 : Hid (Blk w1 (w.heap.size + 1) 25 #[.int .i64 x6, .int .i64 x7]) := hid (Blk.below (Blk.alloc (Blk.at_new _ (by simp)) _) hb (by simp <;> omega))
      have X1 : Hid (Blk w1 (w.heap.size + 1 + 1) 35 #[.int .i64 x8, .int .i64 x9]) := hid (Blk.below (Blk.at_new _ (by simp)) hb (by simp <;> omega))
      have B1 : Hid (Below w.heap.size w w1) := hid (Below.trans ((((Below.refl _ _).alloc (by simp <;> omega) _).alloc (by simp <;> omega) _).alloc (by simp <;> omega) _) (hb.mono (by simp <;> omega)))
      clear hb
      have cG_0 : ∀ (i : Nat), w1.cell? ⟨w.heap.size, i, none⟩ = (#[.int .i64 x0, .int .i64 x1, .int .i64 x2, .int .i64 x3, .int .i64 x4, .int .i64 x5] : Array Value)[i]? := Blk.cell G1.out
      have cG_1 : ∀ (o0 : Obj) (i : Nat), (w1.alloc o0).cell? ⟨w.heap.size, i, none⟩ = (#[.int .i64 x0, .int .i64 x1, .int .i64 x2, .int .i64 x3, .int .i64 x4, .int .i64 x5] : Array Value)[i]? := fun _ => Blk.cell (Blk.alloc G1.out _)
      have cC_0 : ∀ (i : Nat), w1.cell? ⟨w.heap.size + 1, i, none⟩ = (#[.int .i64 x6, .int .i64 x7] : Array Value)[i]? := Blk.cell C1.out
      have cC_1 : ∀ (o0 : Obj) (i : Nat), (w1.alloc o0).cell? ⟨w.heap.size + 1, i, none⟩ = (#[.int .i64 x6, .int .i64 x7] : Array Value)[i]? := fun _ => Blk.cell (Blk.alloc C1.out _)
      have cX_0 : ∀ (i : Nat), w1.cell? ⟨w.heap.size + 1 + 1, i, none⟩ = (#[.int .i64 x8, .int .i64 x9] : Array Value)[i]? := Blk.cell X1.out
      have cX_1 : ∀ (o0 : Obj) (i : Nat), (w1.alloc o0).cell? ⟨w.heap.size + 1 + 1, i, none⟩ = (#[.int .i64 x8, .int .i64 x9] : Array Value)[i]? := fun _ => Blk.cell (Blk.alloc X1.out _)
      go_wp2_with fail
      refine (settled_any _ _ _ _ _ _ _ _ _ _ _).mono ?_
      rintro e w2 ⟨rfl, hb⟩
      have G2 := hid (Blk.below (Blk.alloc G1.out _) hb (Blk.lt (Blk.alloc G1.out _)))
      have C2 := hid (Blk.below (Blk.alloc C1.out _) hb (Blk.lt (Blk.alloc C1.out _)))
      have X2 := hid (Blk.below (Blk.alloc X1.out _) hb (Blk.lt (Blk.alloc X1.out _)))
      have P2 : Hid (Blk w2 (w1.heap.size) 25 #[.int .i64 (nextOut x0 x1 x2 x3 x4 x5 x6 x7 x8 x9), .int .i64 (nextLast x0 x1 x2 x3 x4 x5 x6 x7 x8 x9)]) := hid (Blk.below (Blk.at_new _ (by simp)) hb (by simp <;> omega))
      have B2 : Hid (Below w.heap.size w w2) := hid (Below.trans (Below.alloc B1.out (Nat.le_trans B1.out.size (by simp <;> omega)) _) (hb.mono (Nat.le_trans B1.out.size (by simp <;> omega))))
      clear hb
      clear cG_0 cG_1 cC_0 cC_1 cX_0 cX_1
      have cG_0 : ∀ (i : Nat), w2.cell? ⟨w.heap.size, i, none⟩ = (#[.int .i64 x0, .int .i64 x1, .int .i64 x2, .int .i64 x3, .int .i64 x4, .int .i64 x5] : Array Value)[i]? := Blk.cell G2.out
      have cC_0 : ∀ (i : Nat), w2.cell? ⟨w.heap.size + 1, i, none⟩ = (#[.int .i64 x6, .int .i64 x7] : Array Value)[i]? := Blk.cell C2.out
      have cX_0 : ∀ (i : Nat), w2.cell? ⟨w.heap.size + 1 + 1, i, none⟩ = (#[.int .i64 x8, .int .i64 x9] : Array Value)[i]? := Blk.cell X2.out
      have cP_0 : ∀ (i : Nat), w2.cell? ⟨w1.heap.size, i, none⟩ = (#[.int .i64 (nextOut x0 x1 x2 x3 x4 x5 x6 x7 x8 x9), .int .i64 (nextLast x0 x1 x2 x3 x4 x5 x6 x7 x8 x9)] : Array Value)[i]? := Blk.cell P2.out
      have fC := C2.out.frozen
      go_wp2_with fail
      have l1 : w.heap.size + 1 + 1 < w1.heap.size := X1.out.lt
      refine (step_c _ _ _ _ _ _ _ _ _ _ _).mono ?_
      rintro e w3 ⟨rfl, hb⟩
      have G3 := hid (Blk.below (G2.out.other (a := ⟨w.heap.size + 1, 1, none⟩) (by simp) (.int .i64 0)) hb (by simpa using G2.out.lt))
      have C3 : Hid (Blk w3 (w.heap.size + 1) 25 #[.int .i64 x6, .int .i64 0]) := hid (Blk.below (C2.out.set 1 (.int .i64 0)) hb (by simpa using C2.out.lt))
      have P3 := hid (Blk.below (P2.out.other (a := ⟨w.heap.size + 1, 1, none⟩) (by simp; omega) (.int .i64 0)) hb (by simpa using P2.out.lt))
      have X3 := hid (Blk.below (X2.out.other (a := ⟨w.heap.size + 1, 1, none⟩) (by simp) (.int .i64 0)) hb (by simpa using X2.out.lt))
      have B3 : Hid (Below w.heap.size w w3) := hid ((Below.setCell B2.out (by simp) _).trans (hb.mono (Nat.le_trans B2.out.size (by simp))))
      clear hb cG_0 cC_0 cX_0 cP_0 fC
      have cG : ∀ u0 u1 i, ((w3.setCell ⟨w1.heap.size, 0, none⟩ u0).setCell ⟨w1.heap.size, 1, none⟩ u1).cell? ⟨w.heap.size, i, none⟩ = (#[.int .i64 x0, .int .i64 x1, .int .i64 x2, .int .i64 x3, .int .i64 x4, .int .i64 x5] : Array Value)[i]? := fun u0 u1 => Blk.cell (Blk.other (Blk.other G3.out (by simp; omega) _) (by simp; omega) _)
      have cC : ∀ u0 u1 i, ((w3.setCell ⟨w1.heap.size, 0, none⟩ u0).setCell ⟨w1.heap.size, 1, none⟩ u1).cell? ⟨w.heap.size + 1, i, none⟩ = (#[.int .i64 x6, .int .i64 0] : Array Value)[i]? := fun u0 u1 => Blk.cell (Blk.other (Blk.other C3.out (by simp; omega) _) (by simp; omega) _)
      have cP : ∀ u0 u1 i, ((w3.setCell ⟨w1.heap.size, 0, none⟩ u0).setCell ⟨w1.heap.size, 1, none⟩ u1).cell? ⟨w1.heap.size, i, none⟩ = (#[u0, u1] : Array Value)[i]? := fun u0 u1 => Blk.cell (Blk.set (Blk.set P3.out 0 u0) 1 u1)
      have cX : ∀ u0 u1 i, ((w3.setCell ⟨w1.heap.size, 0, none⟩ u0).setCell ⟨w1.heap.size, 1, none⟩ u1).cell? ⟨w.heap.size + 1 + 1, i, none⟩ = (#[.int .i64 x8, .int .i64 x9] : Array Value)[i]? := fun u0 u1 => Blk.cell (Blk.other (Blk.other X3.out (by simp; omega) _) (by simp; omega) _)
      have c0 := P3.out.cell
      have f0 := P3.out.frozen
      clear l1
      have hn2 := N2.out.1
      have hl2 := N2.out.2
      go_wp2_with fail
      refine (settled_any _ _ _ _ _ _ _ _ _ _ _).mono ?_
      rintro e w4 ⟨rfl, hb⟩
      have B4 : Hid (Below w.heap.size w w4) := hid (Below.trans (Below.setCell (Below.setCell B3.out (by have := B1.out.size; simp; omega) _) (by have := B1.out.size; simp; omega) _) (hb.mono (by have := B3.out.size; simp; omega)))
      clear hb cG cC cP cX c0 f0
      go_wp2_with fail
      refine (awake_any _).mono ?_
      rintro e w5 ⟨rfl, hb⟩
      have B5 : Hid (Below w.heap.size w w5) := hid (B4.out.trans (hb.mono B4.out.size))
      clear hb
      go_wp2
      go_ret
      exact ⟨rfl, B5.out⟩
    · have e3 : (stepErr x0 x1 x2 x3 x4 x5 x6 0 x8 x8 != 0) = true := by simpa using e2
      go_enter Try.func8, Try.ntmps8
      go_wp2_with fail
      refine (step_c _ _ _ _ _ _ _ _ _ _ _).mono ?_
      rintro e w1 ⟨rfl, hb⟩
      have G1 : Hid (Blk w1 (w.heap.size) 23 #[.int .i64 x0, .int .i64 x1, .int .i64 x2, .int .i64 x3, .int .i64 x4, .int .i64 x5]) := hid (Blk.below (Blk.alloc (Blk.alloc (Blk.at_new _ (by simp)) _) _) hb (by simp <;> omega))
      have C1 : Hid (Blk w1 (w.heap.size + 1) 25 #[.int .i64 x6, .int .i64 x7]) := hid (Blk.below (Blk.alloc (Blk.at_new _ (by simp)) _) hb (by simp <;> omega))
      have X1 : Hid (Blk w1 (w.heap.size + 1 + 1) 35 #[.int .i64 x8, .int .i64 x9]) := hid (Blk.below (Blk.at_new _ (by simp)) hb (by simp <;> omega))
      have B1 : Hid (Below w.heap.size w w1) := hid (Below.trans ((((Below.refl _ _).alloc (by simp <;> omega) _).alloc (by simp <;> omega) _).alloc (by simp <;> omega) _) (hb.mono (by simp <;> omega)))
      clear hb
      have cG_0 : ∀ (i : Nat), w1.cell? ⟨w.heap.size, i, none⟩ = (#[.int .i64 x0, .int .i64 x1, .int .i64 x2, .int .i64 x3, .int .i64 x4, .int .i64 x5] : Array Value)[i]? := Blk.cell G1.out
      have cG_1 : ∀ (o0 : Obj) (i : Nat), (w1.alloc o0).cell? ⟨w.heap.size, i, none⟩ = (#[.int .i64 x0, .int .i64 x1, .int .i64 x2, .int .i64 x3, .int .i64 x4, .int .i64 x5] : Array Value)[i]? := fun _ => Blk.cell (Blk.alloc G1.out _)
      have cC_0 : ∀ (i : Nat), w1.cell? ⟨w.heap.size + 1, i, none⟩ = (#[.int .i64 x6, .int .i64 x7] : Array Value)[i]? := Blk.cell C1.out
      have cC_1 : ∀ (o0 : Obj) (i : Nat), (w1.alloc o0).cell? ⟨w.heap.size + 1, i, none⟩ = (#[.int .i64 x6, .int .i64 x7] : Array Value)[i]? := fun _ => Blk.cell (Blk.alloc C1.out _)
      have cX_0 : ∀ (i : Nat), w1.cell? ⟨w.heap.size + 1 + 1, i, none⟩ = (#[.int .i64 x8, .int .i64 x9] : Array Value)[i]? := Blk.cell X1.out
      have cX_1 : ∀ (o0 : Obj) (i : Nat), (w1.alloc o0).cell? ⟨w.heap.size + 1 + 1, i, none⟩ = (#[.int .i64 x8, .int .i64 x9] : Array Value)[i]? := fun _ => Blk.cell (Blk.alloc X1.out _)
      go_wp2_with fail
      refine (settled_any _ _ _ _ _ _ _ _ _ _ _).mono ?_
      rintro e w2 ⟨rfl, hb⟩
      have G2 := hid (Blk.below (Blk.alloc G1.out _) hb (Blk.lt (Blk.alloc G1.out _)))
      have C2 := hid (Blk.below (Blk.alloc C1.out _) hb (Blk.lt (Blk.alloc C1.out _)))
      have X2 := hid (Blk.below (Blk.alloc X1.out _) hb (Blk.lt (Blk.alloc X1.out _)))
      have P2 : Hid (Blk w2 (w1.heap.size) 25 #[.int .i64 (nextOut x0 x1 x2 x3 x4 x5 x6 x7 x8 x9), .int .i64 (nextLast x0 x1 x2 x3 x4 x5 x6 x7 x8 x9)]) := hid (Blk.below (Blk.at_new _ (by simp)) hb (by simp <;> omega))
      have B2 : Hid (Below w.heap.size w w2) := hid (Below.trans (Below.alloc B1.out (Nat.le_trans B1.out.size (by simp <;> omega)) _) (hb.mono (Nat.le_trans B1.out.size (by simp <;> omega))))
      clear hb
      clear cG_0 cG_1 cC_0 cC_1 cX_0 cX_1
      have cG_0 : ∀ (i : Nat), w2.cell? ⟨w.heap.size, i, none⟩ = (#[.int .i64 x0, .int .i64 x1, .int .i64 x2, .int .i64 x3, .int .i64 x4, .int .i64 x5] : Array Value)[i]? := Blk.cell G2.out
      have cC_0 : ∀ (i : Nat), w2.cell? ⟨w.heap.size + 1, i, none⟩ = (#[.int .i64 x6, .int .i64 x7] : Array Value)[i]? := Blk.cell C2.out
      have cX_0 : ∀ (i : Nat), w2.cell? ⟨w.heap.size + 1 + 1, i, none⟩ = (#[.int .i64 x8, .int .i64 x9] : Array Value)[i]? := Blk.cell X2.out
      have cP_0 : ∀ (i : Nat), w2.cell? ⟨w1.heap.size, i, none⟩ = (#[.int .i64 (nextOut x0 x1 x2 x3 x4 x5 x6 x7 x8 x9), .int .i64 (nextLast x0 x1 x2 x3 x4 x5 x6 x7 x8 x9)] : Array Value)[i]? := Blk.cell P2.out
      have fC := C2.out.frozen
      go_wp2_with fail
      have l1 : w.heap.size + 1 + 1 < w1.heap.size := X1.out.lt
      refine (step_c _ _ _ _ _ _ _ _ _ _ _).mono ?_
      rintro e w3 ⟨rfl, hb⟩
      have G3 := hid (Blk.below (G2.out.other (a := ⟨w.heap.size + 1, 1, none⟩) (by simp) (.int .i64 0)) hb (by simpa using G2.out.lt))
      have C3 : Hid (Blk w3 (w.heap.size + 1) 25 #[.int .i64 x6, .int .i64 0]) := hid (Blk.below (C2.out.set 1 (.int .i64 0)) hb (by simpa using C2.out.lt))
      have P3 := hid (Blk.below (P2.out.other (a := ⟨w.heap.size + 1, 1, none⟩) (by simp; omega) (.int .i64 0)) hb (by simpa using P2.out.lt))
      have X3 := hid (Blk.below (X2.out.other (a := ⟨w.heap.size + 1, 1, none⟩) (by simp) (.int .i64 0)) hb (by simpa using X2.out.lt))
      have B3 : Hid (Below w.heap.size w w3) := hid ((Below.setCell B2.out (by simp) _).trans (hb.mono (Nat.le_trans B2.out.size (by simp))))
      clear hb cG_0 cC_0 cX_0 cP_0 fC
      have cG : ∀ u0 u1 i, ((w3.setCell ⟨w1.heap.size, 0, none⟩ u0).setCell ⟨w1.heap.size, 1, none⟩ u1).cell? ⟨w.heap.size, i, none⟩ = (#[.int .i64 x0, .int .i64 x1, .int .i64 x2, .int .i64 x3, .int .i64 x4, .int .i64 x5] : Array Value)[i]? := fun u0 u1 => Blk.cell (Blk.other (Blk.other G3.out (by simp; omega) _) (by simp; omega) _)
      have cC : ∀ u0 u1 i, ((w3.setCell ⟨w1.heap.size, 0, none⟩ u0).setCell ⟨w1.heap.size, 1, none⟩ u1).cell? ⟨w.heap.size + 1, i, none⟩ = (#[.int .i64 x6, .int .i64 0] : Array Value)[i]? := fun u0 u1 => Blk.cell (Blk.other (Blk.other C3.out (by simp; omega) _) (by simp; omega) _)
      have cP : ∀ u0 u1 i, ((w3.setCell ⟨w1.heap.size, 0, none⟩ u0).setCell ⟨w1.heap.size, 1, none⟩ u1).cell? ⟨w1.heap.size, i, none⟩ = (#[u0, u1] : Array Value)[i]? := fun u0 u1 => Blk.cell (Blk.set (Blk.set P3.out 0 u0) 1 u1)
      have cX : ∀ u0 u1 i, ((w3.setCell ⟨w1.heap.size, 0, none⟩ u0).setCell ⟨w1.heap.size, 1, none⟩ u1).cell? ⟨w.heap.size + 1 + 1, i, none⟩ = (#[.int .i64 x8, .int .i64 x9] : Array Value)[i]? := fun u0 u1 => Blk.cell (Blk.other (Blk.other X3.out (by simp; omega) _) (by simp; omega) _)
      have c0 := P3.out.cell
      have f0 := P3.out.frozen
      clear l1
      go_wp2_with fail
      refine (awake_any _).mono ?_
      rintro e w4 ⟨rfl, hb⟩
      have B4 : Hid (Below w.heap.size w w4) := hid (Below.trans (Below.setCell (Below.setCell B3.out (by have := B1.out.size; simp; omega) _) (by have := B1.out.size; simp; omega) _) (hb.mono (by have := B3.out.size; simp; omega)))
      clear hb cG cC cP cX c0 f0
      go_wp2
      go_ret
      exact ⟨rfl, B4.out⟩
end Go.Proofs.Ythekpbkmoejgmaa
