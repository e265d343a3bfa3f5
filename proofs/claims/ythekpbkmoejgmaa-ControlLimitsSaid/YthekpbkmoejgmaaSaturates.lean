/- ControlSaturates. -/
import Derived.Test.YthekpbkmoejgmaaLaw25
namespace Go.Proofs.Ythekpbkmoejgmaa
open Go.RowKit


theorem sat_step {kp ki sh lo hi rate o la e : Int} (hc : chk kp ki sh lo hi rate = 0) (h1 : lo ≤ o) (h2 : o ≤ hi) (h3 : 0 ≤ la) (h4 : la ≤ e) (h5 : e ≤ 16777216) (h6 : rate * 2 ^ sh.toNat ≤ ki * e) :
    stepErr kp ki sh lo hi rate o la e 0 = 0 ∧ nextOut kp ki sh lo hi rate o la e 0 = min (o + rate) hi ∧ nextLast kp ki sh lo hi rate o la e 0 = e := by
  obtain ⟨b1, b2, b3, b4, b5, b6, b7⟩ := chk_ok hc
  have he : stepErr kp ki sh lo hi rate o la e 0 = 0 := by
    simp [stepErr, hc, inB_mk h1 h2, inB_mk (n := la) (lo := -67108864) (hi := 67108864) (by omega) (by omega), inB_mk (n := e) (lo := -33554432) (hi := 33554432) (by omega) (by omega), inB_mk (n := 0) (lo := -33554432) (hi := 33554432) (by omega) (by omega)]
  refine ⟨he, ?_, by unfold nextLast; rw [if_pos he]; omega⟩
  unfold nextOut
  rw [if_pos he]
  unfold stepOut chg
  have hp := (pow_bd (k := sh.toNat) (by omega)).1
  have hm : 0 ≤ kp * (e - 0 - la) := Int.mul_nonneg b1.1 (by omega)
  have hq : rate ≤ (kp * (e - 0 - la) + ki * (e - 0)) / 2 ^ sh.toNat := by
    refine Int.le_ediv_of_mul_le (by omega) ?_
    rw [show e - 0 = e by omega] at *
    omega
  generalize (kp * (e - 0 - la) + ki * (e - 0)) / 2 ^ sh.toNat = q at hq
  unfold clampI
  omega

theorem slow_bd {kp ki sh lo hi rate : Int} (hc : chk kp ki sh lo hi rate = 0) : 0 ≤ slowN kp ki sh lo hi rate ∧ hi - lo ≤ slowN kp ki sh lo hi rate * rate := by
  obtain ⟨b1, b2, b3, b4, b5, b6, b7⟩ := chk_ok hc
  unfold slowN
  rw [if_pos hc]
  refine ⟨Int.ediv_nonneg (by omega) (by omega), ?_⟩
  have h1 := Int.mul_ediv_add_emod (hi - lo + rate - 1) rate
  have h2 := Int.emod_lt_of_pos (hi - lo + rate - 1) (b := rate) (by omega)
  rw [Int.mul_comm]
  omega

theorem start_ok {kp ki sh lo hi rate out : Int} (h : startErr kp ki sh lo hi rate out = 0) : chk kp ki sh lo hi rate = 0 ∧ lo ≤ out ∧ out ≤ hi ∧ startOut kp ki sh lo hi rate out = out := by
  have hs : startOut kp ki sh lo hi rate out = out := by unfold startOut; rw [if_pos h]
  unfold startErr at h
  split at h
  · rename_i hq; exact absurd h hq
  · rename_i hq
    split at h
    · rename_i hb
      exact ⟨by simpa using hq, (inB_true hb).1, (inB_true hb).2, hs⟩
    · cases h

set_option maxHeartbeats 1000000 in
theorem controlSaturates_walk (x0 : Int) (x1 : Int) (x2 : Int) (x3 : Int) (x4 : Int) (x5 : Int) (x6 : Int) (x7 : Int) (w : World) (_h0 : (Lit.int .i64 x0).wf = true) (_h1 : (Lit.int .i64 x1).wf = true) (_h2 : (Lit.int .i64 x2).wf = true) (_h3 : (Lit.int .i64 x3).wf = true) (_h4 : (Lit.int .i64 x4).wf = true) (_h5 : (Lit.int .i64 x5).wf = true) (_h6 : (Lit.int .i64 x6).wf = true) (h7 : (Lit.int .i64 x7).wf = true) :
    Calls Try.prog 9 #[.agg #[.int .i64 x0, .int .i64 x1, .int .i64 x2, .int .i64 x3, .int .i64 x4, .int .i64 x5], .int .i64 x6, .int .i64 x7] w fun e w' => e = .returned (.bool true) ∧ Below w.heap.size w w' := by
  by_cases hc : chk x0 x1 x2 x3 x4 x5 = 0
  · obtain ⟨b1, b2, b3, b4, b5, b6, b7⟩ := chk_ok hc
    by_cases hs : startErr x0 x1 x2 x3 x4 x5 x6 = 0
    · by_cases he : 0 ≤ x7 ∧ x7 ≤ 16777216
      · obtain ⟨N, hN⟩ := Int.eq_ofNat_of_zero_le (slow_bd hc).1
        have HS := hid (slow_bd hc).2
        have HO := hid (start_ok hs)
        have m2 := mul_bd b2.1 b2.2 (b := x7) (B := 16777216) (by omega) (by omega)
        have hp := pow_bd (k := x2.toNat) (by omega)
        have HW : Hid (∀ {P : Prop}, (P ∧ wrap64 (x5 * 2 ^ x2.toNat) ≤ x1 * x7) → x5 * 2 ^ x2.toNat ≤ x1 * x7) := by
          have m3 := mul_bd (a := x5) (A := 16777216) (b := 2 ^ x2.toNat) (B := 1048576) (by omega) (by omega) (by omega) (by omega)
          have e2 : wrap64 (x5 * 2 ^ x2.toNat) = x5 * 2 ^ x2.toNat := by
            generalize x5 * 2 ^ x2.toNat = z at m3 ⊢
            go_arith
          rw [e2]
          exact @fun P h => h.2
        by_cases hn : 400 < (N : Int)
        · skip
          go_enter Try.func9, Try.ntmps9
          go_wp2_with fail
          refine (slow_c _ _ _ _ _ _ _).mono ?_
          rintro e w1 ⟨rfl, hb⟩
          have G1 : Hid (Blk w1 (w.heap.size) 23 #[.int .i64 x0, .int .i64 x1, .int .i64 x2, .int .i64 x3, .int .i64 x4, .int .i64 x5]) := hid (Blk.below (Blk.at_new _ (by simp)) hb (by simp <;> omega))
          have B1 : Hid (Below w.heap.size w w1) := hid (Below.trans ((Below.refl _ _).alloc (by simp <;> omega) _) (hb.mono (by simp <;> omega)))
          clear hb
          have cG_0 : ∀ (i : Nat), w1.cell? ⟨w.heap.size, i, none⟩ = (#[.int .i64 x0, .int .i64 x1, .int .i64 x2, .int .i64 x3, .int .i64 x4, .int .i64 x5] : Array Value)[i]? := Blk.cell G1.out
          go_wp2_with fail
          refine (start_c _ _ _ _ _ _ _ _).mono ?_
          rintro e w2 ⟨rfl, hb⟩
          have G2 := hid (Blk.below G1.out hb (Blk.lt G1.out))
          have B2 : Hid (Below w.heap.size w w2) := hid (Below.trans B1.out (hb.mono (Nat.le_trans B1.out.size (by simp <;> omega))))
          clear hb
          clear cG_0
          have cG_0 : ∀ (i : Nat), w2.cell? ⟨w.heap.size, i, none⟩ = (#[.int .i64 x0, .int .i64 x1, .int .i64 x2, .int .i64 x3, .int .i64 x4, .int .i64 x5] : Array Value)[i]? := Blk.cell G2.out
          have cG_1 : ∀ (o0 : Obj) (i : Nat), (w2.alloc o0).cell? ⟨w.heap.size, i, none⟩ = (#[.int .i64 x0, .int .i64 x1, .int .i64 x2, .int .i64 x3, .int .i64 x4, .int .i64 x5] : Array Value)[i]? := fun _ => Blk.cell (Blk.alloc G2.out _)
          go_wp2_with fail
          refine (awake_any _).mono ?_
          rintro e w3 ⟨rfl, hb⟩
          have B3 : Hid (Below w.heap.size w w3) := hid (Below.trans (Below.alloc B2.out B2.out.size _) (hb.mono (Nat.le_trans B2.out.size (by simp))))
          clear hb
          go_wp2
          go_ret
          exact ⟨rfl, B3.out⟩
        go_enter Try.func9, Try.ntmps9
        go_wp2_with fail
        refine (slow_c _ _ _ _ _ _ _).mono ?_
        rintro e w1 ⟨rfl, hb⟩
        have G1 : Hid (Blk w1 (w.heap.size) 23 #[.int .i64 x0, .int .i64 x1, .int .i64 x2, .int .i64 x3, .int .i64 x4, .int .i64 x5]) := hid (Blk.below (Blk.at_new _ (by simp)) hb (by simp <;> omega))
        have B1 : Hid (Below w.heap.size w w1) := hid (Below.trans ((Below.refl _ _).alloc (by simp <;> omega) _) (hb.mono (by simp <;> omega)))
        clear hb
        have cG_0 : ∀ (i : Nat), w1.cell? ⟨w.heap.size, i, none⟩ = (#[.int .i64 x0, .int .i64 x1, .int .i64 x2, .int .i64 x3, .int .i64 x4, .int .i64 x5] : Array Value)[i]? := Blk.cell G1.out
        go_wp2_with fail
        refine (start_c _ _ _ _ _ _ _ _).mono ?_
        rintro e w2 ⟨rfl, hb⟩
        have G2 := hid (Blk.below G1.out hb (Blk.lt G1.out))
        have B2 : Hid (Below w.heap.size w w2) := hid (Below.trans B1.out (hb.mono (Nat.le_trans B1.out.size (by simp <;> omega))))
        clear hb
        clear cG_0
        have cG_0 : ∀ (i : Nat), w2.cell? ⟨w.heap.size, i, none⟩ = (#[.int .i64 x0, .int .i64 x1, .int .i64 x2, .int .i64 x3, .int .i64 x4, .int .i64 x5] : Array Value)[i]? := Blk.cell G2.out
        have cG_1 : ∀ (o0 : Obj) (i : Nat), (w2.alloc o0).cell? ⟨w.heap.size, i, none⟩ = (#[.int .i64 x0, .int .i64 x1, .int .i64 x2, .int .i64 x3, .int .i64 x4, .int .i64 x5] : Array Value)[i]? := fun _ => Blk.cell (Blk.alloc G2.out _)
        go_wp2_with fail
        · refine (awake_any _).mono ?_
          rintro e w3 ⟨rfl, hb⟩
          have B3 : Hid (Below w.heap.size w w3) := hid (Below.trans (Below.alloc B2.out B2.out.size _) (hb.mono (Nat.le_trans B2.out.size (by simp))))
          clear hb
          go_wp2
          go_ret
          exact ⟨rfl, B3.out⟩
        · rename_i hcond _ _
          have hcond := HW.out hcond
          have HC := hid hcond
          have SG := hid (Blk.alloc G2.out (.cells #[.int .i64 (startOut x0 x1 x2 x3 x4 x5 x6), .int .i64 0] 25))
          have SC : Hid (Blk (w2.alloc (.cells #[.int .i64 (startOut x0 x1 x2 x3 x4 x5 x6), .int .i64 0] 25)) w2.heap.size 25 #[.int .i64 (startOut x0 x1 x2 x3 x4 x5 x6), .int .i64 0]) := hid (Blk.at_new _ rfl)
          have SB := hid (Below.alloc B2.out B2.out.size (.cells #[.int .i64 (startOut x0 x1 x2 x3 x4 x5 x6), .int .i64 0] 25))
          have hw2 : w.heap.size < w2.heap.size := G2.out.lt
          clear hcond
          go_loopw [11] (fun i wr => ∃ (k : Nat) (o la : Int), k ≤ N ∧ i = .int .i64 k ∧ Blk wr w.heap.size 23 #[.int .i64 x0, .int .i64 x1, .int .i64 x2, .int .i64 x3, .int .i64 x4, .int .i64 x5] ∧ Blk wr w2.heap.size 25 #[.int .i64 o, .int .i64 la] ∧ x3 ≤ o ∧ o ≤ x4 ∧ (o = x4 ∨ o = x6 + k * x5) ∧ (k = 0 ∧ la = 0 ∨ 0 < k ∧ la = x7) ∧ Below w.heap.size w wr) (fun i _ => N - (intOf i).toNat)
          case atStart => exact ⟨0, startOut x0 x1 x2 x3 x4 x5 x6, 0, Nat.zero_le _, rfl, SG.out, SC.out, by rw [HO.out.2.2.2]; exact HO.out.2.1, by rw [HO.out.2.2.2]; exact HO.out.2.2.1, .inr (by rw [HO.out.2.2.2]; omega), .inl ⟨rfl, rfl⟩, SB.out⟩
          case round =>
            obtain ⟨k, o, la, hk, rfl, hg, hb0, h1, h2, h3, h4, hbel⟩ := hrel
            by_cases hlt : k < N
            · obtain ⟨t1, t2, t3⟩ := sat_step hc h1 h2 (la := la) (e := x7) (by omega) (by omega) he.2 HC.out
              obtain ⟨o2, ho2⟩ : ∃ o2, min (o + x5) x4 = o2 := ⟨_, rfl⟩
              rw [ho2] at t2
              have H3 := hid h3
              have cg := hg.cell
              have cc := hb0.cell
              have HG := hid hg
              have HC0 := hid hb0
              have HBr := hid hbel
              have T1 := hid t1
              have T2 := hid (And.intro t2 t3)
              have L := hid ho2
              clear hg hb0 hbel t1 t2 t3 ho2 h3
              go_wp2_with fail
              refine (step_c _ _ _ _ _ _ _ _ _ _ _).mono ?_
              rintro e w5 ⟨rfl, hb⟩
              have G5 := hid (Blk.below HG.out hb (Blk.lt HG.out))
              have C5 := hid (Blk.below HC0.out hb (Blk.lt HC0.out))
              have B5 := hid (HBr.out.trans (hb.mono HBr.out.size))
              clear hb cg cc
              rw [T1.out, T2.out.1, T2.out.2]
              have cc : ∀ (p : Obj) i, (w5.alloc p).cell? ⟨w2.heap.size, i, none⟩ = (#[.int .i64 o, .int .i64 la] : Array Value)[i]? := fun p => (Blk.alloc C5.out p).cell
              have fc : ∀ (p : Obj) i, (w5.alloc p).frozen? ⟨w2.heap.size, i, none⟩ = false := fun p => (Blk.alloc C5.out p).frozen
              go_wp2
              go_roundw
              case rel =>
                have L := L.out
                have H3 := H3.out
                refine ⟨k + 1, o2, x7, by omega, by go_num, Blk.other (Blk.other (Blk.alloc G5.out _) (by simp; omega) _) (by simp; omega) _, Blk.set (Blk.set (Blk.alloc C5.out _) 0 _) 1 _, by omega, by omega, ?_, .inr ⟨by omega, rfl⟩, Below.setCell (Below.setCell (Below.alloc B5.out B5.out.size _) (by simp; omega) _) (by simp; omega) _⟩
                rw [show ((k + 1 : Nat) : Int) * x5 = k * x5 + x5 by rw [Int.natCast_add, Int.add_mul]; omega]
                omega
              case measure => simp [intOf]; omega
            · have hkN : k = N := by omega
              subst hkN
              have hend : o = x4 := by
                have := HS.out
                rw [hN] at this
                have := HO.out.2.1
                rcases h3 with h3 | h3 <;> omega
              subst hend
              have cg := hg.cell
              have cc := hb0.cell
              have HG := hid hg
              have HC0 := hid hb0
              have HBr := hid hbel
              clear hg hb0 hbel h3
              rcases h4 with ⟨hk0, hla⟩ | ⟨hk0, hla⟩
              · subst hla
                go_wp2_with fail
                refine (awake_any _).mono ?_
                rintro e w5 ⟨rfl, hb⟩
                have B5 : Hid (Below w.heap.size w w5) := hid (HBr.out.trans (hb.mono HBr.out.size))
                clear hb
                go_wp2
                go_ret
                exact ⟨rfl, B5.out⟩
              · subst hla
                go_wp2_with fail
                refine (awake_any _).mono ?_
                rintro e w5 ⟨rfl, hb⟩
                have B5 : Hid (Below w.heap.size w w5) := hid (HBr.out.trans (hb.mono HBr.out.size))
                clear hb
                go_wp2
                go_ret
                exact ⟨rfl, B5.out⟩
      · rcases (by omega : x7 < 0 ∨ 16777216 < x7) with h | h
        · by_cases hn : 400 < slowN x0 x1 x2 x3 x4 x5
          · skip
            go_enter Try.func9, Try.ntmps9
            go_wp2_with fail
            refine (slow_c _ _ _ _ _ _ _).mono ?_
            rintro e w1 ⟨rfl, hb⟩
            have G1 : Hid (Blk w1 (w.heap.size) 23 #[.int .i64 x0, .int .i64 x1, .int .i64 x2, .int .i64 x3, .int .i64 x4, .int .i64 x5]) := hid (Blk.below (Blk.at_new _ (by simp)) hb (by simp <;> omega))
            have B1 : Hid (Below w.heap.size w w1) := hid (Below.trans ((Below.refl _ _).alloc (by simp <;> omega) _) (hb.mono (by simp <;> omega)))
            clear hb
            have cG_0 : ∀ (i : Nat), w1.cell? ⟨w.heap.size, i, none⟩ = (#[.int .i64 x0, .int .i64 x1, .int .i64 x2, .int .i64 x3, .int .i64 x4, .int .i64 x5] : Array Value)[i]? := Blk.cell G1.out
            go_wp2_with fail
            refine (start_c _ _ _ _ _ _ _ _).mono ?_
            rintro e w2 ⟨rfl, hb⟩
            have G2 := hid (Blk.below G1.out hb (Blk.lt G1.out))
            have B2 : Hid (Below w.heap.size w w2) := hid (Below.trans B1.out (hb.mono (Nat.le_trans B1.out.size (by simp <;> omega))))
            clear hb
            clear cG_0
            have cG_0 : ∀ (i : Nat), w2.cell? ⟨w.heap.size, i, none⟩ = (#[.int .i64 x0, .int .i64 x1, .int .i64 x2, .int .i64 x3, .int .i64 x4, .int .i64 x5] : Array Value)[i]? := Blk.cell G2.out
            have cG_1 : ∀ (o0 : Obj) (i : Nat), (w2.alloc o0).cell? ⟨w.heap.size, i, none⟩ = (#[.int .i64 x0, .int .i64 x1, .int .i64 x2, .int .i64 x3, .int .i64 x4, .int .i64 x5] : Array Value)[i]? := fun _ => Blk.cell (Blk.alloc G2.out _)
            go_wp2_with fail
            refine (awake_any _).mono ?_
            rintro e w3 ⟨rfl, hb⟩
            have B3 : Hid (Below w.heap.size w w3) := hid (Below.trans (Below.alloc B2.out B2.out.size _) (hb.mono (Nat.le_trans B2.out.size (by simp))))
            clear hb
            go_wp2
            go_ret
            exact ⟨rfl, B3.out⟩
          · skip
            go_enter Try.func9, Try.ntmps9
            go_wp2_with fail
            refine (slow_c _ _ _ _ _ _ _).mono ?_
            rintro e w1 ⟨rfl, hb⟩
            have G1 : Hid (Blk w1 (w.heap.size) 23 #[.int .i64 x0, .int .i64 x1, .int .i64 x2, .int .i64 x3, .int .i64 x4, .int .i64 x5]) := hid (Blk.below (Blk.at_new _ (by simp)) hb (by simp <;> omega))
            have B1 : Hid (Below w.heap.size w w1) := hid (Below.trans ((Below.refl _ _).alloc (by simp <;> omega) _) (hb.mono (by simp <;> omega)))
            clear hb
            have cG_0 : ∀ (i : Nat), w1.cell? ⟨w.heap.size, i, none⟩ = (#[.int .i64 x0, .int .i64 x1, .int .i64 x2, .int .i64 x3, .int .i64 x4, .int .i64 x5] : Array Value)[i]? := Blk.cell G1.out
            go_wp2_with fail
            refine (start_c _ _ _ _ _ _ _ _).mono ?_
            rintro e w2 ⟨rfl, hb⟩
            have G2 := hid (Blk.below G1.out hb (Blk.lt G1.out))
            have B2 : Hid (Below w.heap.size w w2) := hid (Below.trans B1.out (hb.mono (Nat.le_trans B1.out.size (by simp <;> omega))))
            clear hb
            clear cG_0
            have cG_0 : ∀ (i : Nat), w2.cell? ⟨w.heap.size, i, none⟩ = (#[.int .i64 x0, .int .i64 x1, .int .i64 x2, .int .i64 x3, .int .i64 x4, .int .i64 x5] : Array Value)[i]? := Blk.cell G2.out
            have cG_1 : ∀ (o0 : Obj) (i : Nat), (w2.alloc o0).cell? ⟨w.heap.size, i, none⟩ = (#[.int .i64 x0, .int .i64 x1, .int .i64 x2, .int .i64 x3, .int .i64 x4, .int .i64 x5] : Array Value)[i]? := fun _ => Blk.cell (Blk.alloc G2.out _)
            go_wp2_with fail
            refine (awake_any _).mono ?_
            rintro e w3 ⟨rfl, hb⟩
            have B3 : Hid (Below w.heap.size w w3) := hid (Below.trans (Below.alloc B2.out B2.out.size _) (hb.mono (Nat.le_trans B2.out.size (by simp))))
            clear hb
            go_wp2
            go_ret
            exact ⟨rfl, B3.out⟩
        · by_cases hn : 400 < slowN x0 x1 x2 x3 x4 x5
          · skip
            go_enter Try.func9, Try.ntmps9
            go_wp2_with fail
            refine (slow_c _ _ _ _ _ _ _).mono ?_
            rintro e w1 ⟨rfl, hb⟩
            have G1 : Hid (Blk w1 (w.heap.size) 23 #[.int .i64 x0, .int .i64 x1, .int .i64 x2, .int .i64 x3, .int .i64 x4, .int .i64 x5]) := hid (Blk.below (Blk.at_new _ (by simp)) hb (by simp <;> omega))
            have B1 : Hid (Below w.heap.size w w1) := hid (Below.trans ((Below.refl _ _).alloc (by simp <;> omega) _) (hb.mono (by simp <;> omega)))
            clear hb
            have cG_0 : ∀ (i : Nat), w1.cell? ⟨w.heap.size, i, none⟩ = (#[.int .i64 x0, .int .i64 x1, .int .i64 x2, .int .i64 x3, .int .i64 x4, .int .i64 x5] : Array Value)[i]? := Blk.cell G1.out
            go_wp2_with fail
            refine (start_c _ _ _ _ _ _ _ _).mono ?_
            rintro e w2 ⟨rfl, hb⟩
            have G2 := hid (Blk.below G1.out hb (Blk.lt G1.out))
            have B2 : Hid (Below w.heap.size w w2) := hid (Below.trans B1.out (hb.mono (Nat.le_trans B1.out.size (by simp <;> omega))))
            clear hb
            clear cG_0
            have cG_0 : ∀ (i : Nat), w2.cell? ⟨w.heap.size, i, none⟩ = (#[.int .i64 x0, .int .i64 x1, .int .i64 x2, .int .i64 x3, .int .i64 x4, .int .i64 x5] : Array Value)[i]? := Blk.cell G2.out
            have cG_1 : ∀ (o0 : Obj) (i : Nat), (w2.alloc o0).cell? ⟨w.heap.size, i, none⟩ = (#[.int .i64 x0, .int .i64 x1, .int .i64 x2, .int .i64 x3, .int .i64 x4, .int .i64 x5] : Array Value)[i]? := fun _ => Blk.cell (Blk.alloc G2.out _)
            go_wp2_with fail
            refine (awake_any _).mono ?_
            rintro e w3 ⟨rfl, hb⟩
            have B3 : Hid (Below w.heap.size w w3) := hid (Below.trans (Below.alloc B2.out B2.out.size _) (hb.mono (Nat.le_trans B2.out.size (by simp))))
            clear hb
            go_wp2
            go_ret
            exact ⟨rfl, B3.out⟩
          · skip
            go_enter Try.func9, Try.ntmps9
            go_wp2_with fail
            refine (slow_c _ _ _ _ _ _ _).mono ?_
            rintro e w1 ⟨rfl, hb⟩
            have G1 : Hid (Blk w1 (w.heap.size) 23 #[.int .i64 x0, .int .i64 x1, .int .i64 x2, .int .i64 x3, .int .i64 x4, .int .i64 x5]) := hid (Blk.below (Blk.at_new _ (by simp)) hb (by simp <;> omega))
            have B1 : Hid (Below w.heap.size w w1) := hid (Below.trans ((Below.refl _ _).alloc (by simp <;> omega) _) (hb.mono (by simp <;> omega)))
            clear hb
            have cG_0 : ∀ (i : Nat), w1.cell? ⟨w.heap.size, i, none⟩ = (#[.int .i64 x0, .int .i64 x1, .int .i64 x2, .int .i64 x3, .int .i64 x4, .int .i64 x5] : Array Value)[i]? := Blk.cell G1.out
            go_wp2_with fail
            refine (start_c _ _ _ _ _ _ _ _).mono ?_
            rintro e w2 ⟨rfl, hb⟩
            have G2 := hid (Blk.below G1.out hb (Blk.lt G1.out))
            have B2 : Hid (Below w.heap.size w w2) := hid (Below.trans B1.out (hb.mono (Nat.le_trans B1.out.size (by simp <;> omega))))
            clear hb
            clear cG_0
            have cG_0 : ∀ (i : Nat), w2.cell? ⟨w.heap.size, i, none⟩ = (#[.int .i64 x0, .int .i64 x1, .int .i64 x2, .int .i64 x3, .int .i64 x4, .int .i64 x5] : Array Value)[i]? := Blk.cell G2.out
            have cG_1 : ∀ (o0 : Obj) (i : Nat), (w2.alloc o0).cell? ⟨w.heap.size, i, none⟩ = (#[.int .i64 x0, .int .i64 x1, .int .i64 x2, .int .i64 x3, .int .i64 x4, .int .i64 x5] : Array Value)[i]? := fun _ => Blk.cell (Blk.alloc G2.out _)
            go_wp2_with fail
            refine (awake_any _).mono ?_
            rintro e w3 ⟨rfl, hb⟩
            have B3 : Hid (Below w.heap.size w w3) := hid (Below.trans (Below.alloc B2.out B2.out.size _) (hb.mono (Nat.le_trans B2.out.size (by simp))))
            clear hb
            go_wp2
            go_ret
            exact ⟨rfl, B3.out⟩
    · have h1 : (startErr x0 x1 x2 x3 x4 x5 x6 != 0) = true := by simpa using hs
      go_enter Try.func9, Try.ntmps9
      go_wp2_with fail
      refine (slow_c _ _ _ _ _ _ _).mono ?_
      rintro e w1 ⟨rfl, hb⟩
      have G1 : Hid (Blk w1 (w.heap.size) 23 #[.int .i64 x0, .int .i64 x1, .int .i64 x2, .int .i64 x3, .int .i64 x4, .int .i64 x5]) := hid (Blk.below (Blk.at_new _ (by simp)) hb (by simp <;> omega))
      have B1 : Hid (Below w.heap.size w w1) := hid (Below.trans ((Below.refl _ _).alloc (by simp <;> omega) _) (hb.mono (by simp <;> omega)))
      clear hb
      have cG_0 : ∀ (i : Nat), w1.cell? ⟨w.heap.size, i, none⟩ = (#[.int .i64 x0, .int .i64 x1, .int .i64 x2, .int .i64 x3, .int .i64 x4, .int .i64 x5] : Array Value)[i]? := Blk.cell G1.out
      go_wp2_with fail
      refine (start_c _ _ _ _ _ _ _ _).mono ?_
      rintro e w2 ⟨rfl, hb⟩
      have G2 := hid (Blk.below G1.out hb (Blk.lt G1.out))
      have B2 : Hid (Below w.heap.size w w2) := hid (Below.trans B1.out (hb.mono (Nat.le_trans B1.out.size (by simp <;> omega))))
      clear hb
      clear cG_0
      have cG_0 : ∀ (i : Nat), w2.cell? ⟨w.heap.size, i, none⟩ = (#[.int .i64 x0, .int .i64 x1, .int .i64 x2, .int .i64 x3, .int .i64 x4, .int .i64 x5] : Array Value)[i]? := Blk.cell G2.out
      have cG_1 : ∀ (o0 : Obj) (i : Nat), (w2.alloc o0).cell? ⟨w.heap.size, i, none⟩ = (#[.int .i64 x0, .int .i64 x1, .int .i64 x2, .int .i64 x3, .int .i64 x4, .int .i64 x5] : Array Value)[i]? := fun _ => Blk.cell (Blk.alloc G2.out _)
      go_wp2_with fail
      refine (awake_any _).mono ?_
      rintro e w3 ⟨rfl, hb⟩
      have B3 : Hid (Below w.heap.size w w3) := hid (Below.trans (Below.alloc B2.out B2.out.size _) (hb.mono (Nat.le_trans B2.out.size (by simp))))
      clear hb
      go_wp2
      go_ret
      exact ⟨rfl, B3.out⟩
  · have h1 : (chk x0 x1 x2 x3 x4 x5 != 0) = true := by simpa using hc
    go_enter Try.func9, Try.ntmps9
    go_wp2_with fail
    refine (slow_c _ _ _ _ _ _ _).mono ?_
    rintro e w1 ⟨rfl, hb⟩
    have G1 : Hid (Blk w1 (w.heap.size) 23 #[.int .i64 x0, .int .i64 x1, .int .i64 x2, .int .i64 x3, .int .i64 x4, .int .i64 x5]) := hid (Blk.below (Blk.at_new _ (by simp)) hb (by simp <;> omega))
    have B1 : Hid (Below w.heap.size w w1) := hid (Below.trans ((Below.refl _ _).alloc (by simp <;> omega) _) (hb.mono (by simp <;> omega)))
    clear hb
    have cG_0 : ∀ (i : Nat), w1.cell? ⟨w.heap.size, i, none⟩ = (#[.int .i64 x0, .int .i64 x1, .int .i64 x2, .int .i64 x3, .int .i64 x4, .int .i64 x5] : Array Value)[i]? := Blk.cell G1.out
    go_wp2_with fail
    refine (start_c _ _ _ _ _ _ _ _).mono ?_
    rintro e w2 ⟨rfl, hb⟩
    have G2 := hid (Blk.below G1.out hb (Blk.lt G1.out))
    have B2 : Hid (Below w.heap.size w w2) := hid (Below.trans B1.out (hb.mono (Nat.le_trans B1.out.size (by simp <;> omega))))
    clear hb
    clear cG_0
    have cG_0 : ∀ (i : Nat), w2.cell? ⟨w.heap.size, i, none⟩ = (#[.int .i64 x0, .int .i64 x1, .int .i64 x2, .int .i64 x3, .int .i64 x4, .int .i64 x5] : Array Value)[i]? := Blk.cell G2.out
    have cG_1 : ∀ (o0 : Obj) (i : Nat), (w2.alloc o0).cell? ⟨w.heap.size, i, none⟩ = (#[.int .i64 x0, .int .i64 x1, .int .i64 x2, .int .i64 x3, .int .i64 x4, .int .i64 x5] : Array Value)[i]? := fun _ => Blk.cell (Blk.alloc G2.out _)
    go_wp2_with fail
    refine (awake_any _).mono ?_
    rintro e w3 ⟨rfl, hb⟩
    have B3 : Hid (Below w.heap.size w w3) := hid (Below.trans (Below.alloc B2.out B2.out.size _) (hb.mono (Nat.le_trans B2.out.size (by simp))))
    clear hb
    go_wp2
    go_ret
    exact ⟨rfl, B3.out⟩
end Go.Proofs.Ythekpbkmoejgmaa
