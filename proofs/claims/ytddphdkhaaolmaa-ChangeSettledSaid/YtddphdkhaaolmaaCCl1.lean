/- Closed loops: what is permitted. -/
import Derived.Test.YtddphdkhaaolmaaKTwo
import Derived.Test.YtddphdkhaaolmaaKRStep
import Derived.Deep.DeepCutAuto
namespace Go.Proofs.Ytddphdkhaaolmaa
open Go.RowKit

def chkC (kp ki sh lo hi rate ga la de : Int) : Int := if Ct.chk kp ki sh lo hi rate ≠ 0 then Ct.chk kp ki sh lo hi rate else if chkP ga la de ≠ 0 then 1 else if (absB (tgt ga lo) 16777216 && absB (tgt ga hi) 16777216) = true then 0 else 32
theorem signal_any (n : Int) (w : World) : Calls Try.prog 66 #[.int .i64 n] w fun e w' => e = .returned (.bool (absB n 16777216)) ∧ w = w' := by
  go_enter Try.func66, Try.ntmps66
  go_wp2
  all_goals go_ret
  all_goals refine ⟨ret_b ?_, rfl⟩
  all_goals simp [absB] <;> omega
theorem rsignal_any (n : Int) (w : World) : Calls Try.prog 74 #[.int .i64 n] w fun e w' => e = .returned (.bool (absB n 16777216)) ∧ w = w' := by
  go_enter Try.func74, Try.ntmps74
  go_wp2
  all_goals go_ret
  all_goals refine ⟨ret_b ?_, rfl⟩
  all_goals simp [absB] <;> omega
theorem target_ok (ga la de n : Int) (w : World) (hc : chkP ga la de = 0) (h : -16777216 ≤ n ∧ n ≤ 16777216) : Calls Try.prog 65 #[.agg #[.int .i64 ga, .int .i64 la, .int .i64 de], .int .i64 n] w fun e w' => e = .returned (.tuple #[.int .i64 (tgt ga n), .int .i64 0]) ∧ Below w.heap.size w w' := by
  have h0 : tgtErr ga la de n = 0 := by unfold tgtErr; rw [if_neg (by omega), if_pos (absB_mk h.1 h.2)]
  have := Target_any ga la de n w
  unfold tgtN at this
  rw [h0, if_pos rfl] at this
  exact this
theorem rtarget_ok (ga la de n : Int) (w : World) (hc : chkP ga la de = 0) (h : -16777216 ≤ n ∧ n ≤ 16777216) : Calls Try.prog 52 #[.agg #[.int .i64 ga, .int .i64 la, .int .i64 de], .int .i64 n] w fun e w' => e = .returned (.tuple #[.int .i64 (tgt ga n), .int .i64 0]) ∧ Below w.heap.size w w' := by
  have h0 : tgtErr ga la de n = 0 := by unfold tgtErr; rw [if_neg (by omega), if_pos (absB_mk h.1 h.2)]
  have := rTarget_any ga la de n w
  unfold tgtN at this
  rw [h0, if_pos rfl] at this
  exact this
theorem idx0 (lo hi : Int) (w : World) : Sem.run Try.prog (Instr.index 52 (.agg #[.int .i64 lo, .int .i64 hi]) (.int .i64 0)) w = .ok (.int .i64 lo) w := by kernel_rfl
theorem idx1 (lo hi : Int) (w : World) : Sem.run Try.prog (Instr.index 52 (.agg #[.int .i64 lo, .int .i64 hi]) (.int .i64 1)) w = .ok (.int .i64 hi) w := by kernel_rfl
set_option maxRecDepth 100000 in
set_option maxHeartbeats 4000000 in
theorem ccheck_any (kp ki sh lo hi rate ga la de : Int) (w : World) :
    Calls Try.prog 41 #[.agg #[.int .i64 kp, .int .i64 ki, .int .i64 sh, .int .i64 lo, .int .i64 hi, .int .i64 rate, .int .i64 ga, .int .i64 la, .int .i64 de]] w fun e w' => e = .returned (.int .i64 (chkC kp ki sh lo hi rate ga la de)) ∧ Below w.heap.size w w' := by
  by_cases hc : Ct.chk kp ki sh lo hi rate = 0
  · have HC := hid hc
    by_cases hc2 : chkP ga la de = 0
    · have HC2 := hid hc2
      have ck := Ct.chk_ok hc
      go_enter Try.func41, Try.ntmps41
      go_wp2_with fail
      refine (Ct.check_any _ _ _ _ _ _ _).mono ?_
      rintro e w1 ⟨rfl, hb⟩
      have C1 : Hid (Blk w1 (w.heap.size) 27 #[.int .i64 kp, .int .i64 ki, .int .i64 sh, .int .i64 lo, .int .i64 hi, .int .i64 rate, .int .i64 ga, .int .i64 la, .int .i64 de]) := hid (Blk.below (Blk.at_new _ (by simp)) hb (by simp <;> omega))
      have B1 : Hid (Below w.heap.size w w1) := hid (Below.trans ((Below.refl _ _).alloc (by simp <;> omega) _) (hb.mono (by simp <;> omega)))
      clear hb
      have cC_0 : ∀ (i : Nat), w1.cell? ⟨w.heap.size, i, none⟩ = (#[.int .i64 kp, .int .i64 ki, .int .i64 sh, .int .i64 lo, .int .i64 hi, .int .i64 rate, .int .i64 ga, .int .i64 la, .int .i64 de] : Array Value)[i]? := Blk.cell C1.out
      have cC_1 : ∀ (o0 : Obj) (i : Nat), (w1.alloc o0).cell? ⟨w.heap.size, i, none⟩ = (#[.int .i64 kp, .int .i64 ki, .int .i64 sh, .int .i64 lo, .int .i64 hi, .int .i64 rate, .int .i64 ga, .int .i64 la, .int .i64 de] : Array Value)[i]? := fun _ => Blk.cell (Blk.alloc C1.out _)
      have hz := HC.out
      rw [hz]
      go_wp2_with fail
      refine (check_any _ _ _ _).mono ?_
      rintro e w2 ⟨rfl, hb⟩
      have C2 := hid (Blk.below C1.out hb (Blk.lt C1.out))
      have B2 : Hid (Below w.heap.size w w2) := hid (Below.trans B1.out (hb.mono (Nat.le_trans B1.out.size (by simp <;> omega))))
      clear hb
      clear cC_0 cC_1
      have cC_0 : ∀ (i : Nat), w2.cell? ⟨w.heap.size, i, none⟩ = (#[.int .i64 kp, .int .i64 ki, .int .i64 sh, .int .i64 lo, .int .i64 hi, .int .i64 rate, .int .i64 ga, .int .i64 la, .int .i64 de] : Array Value)[i]? := Blk.cell C2.out
      have cC_1 : ∀ (o0 : Obj) (i : Nat), (w2.alloc o0).cell? ⟨w.heap.size, i, none⟩ = (#[.int .i64 kp, .int .i64 ki, .int .i64 sh, .int .i64 lo, .int .i64 hi, .int .i64 rate, .int .i64 ga, .int .i64 la, .int .i64 de] : Array Value)[i]? := fun _ => Blk.cell (Blk.alloc C2.out _)
      have hz2 := HC2.out
      rw [hz2]
      go_wp2
      go_loopw [28] (fun i wr => ∃ k : Nat, k ≤ 2 ∧ i = .int .i64 k ∧ (1 ≤ k → absB (tgt ga lo) 16777216 = true) ∧ (2 ≤ k → absB (tgt ga hi) 16777216 = true) ∧ Blk wr w.heap.size 27 #[.int .i64 kp, .int .i64 ki, .int .i64 sh, .int .i64 lo, .int .i64 hi, .int .i64 rate, .int .i64 ga, .int .i64 la, .int .i64 de] ∧ Below w.heap.size w wr) (fun i _ => 2 - (intOf i).toNat)
      case atStart => exact ⟨0, by omega, rfl, by omega, by omega, C2.out, B2.out⟩
      case round =>
        obtain ⟨k, hk, rfl, hl, hh, hC, hbel⟩ := hrel
        have C := hid hC
        have BB := hid hbel
        have cC := hC.cell
        have HL := hid hl
        have HH := hid hh
        clear hC hbel hl hh
        rcases Nat.lt_or_ge k 1 with h0 | h0
        · obtain rfl : k = 0 := by omega
          have ix := idx0 lo hi wr
          go_wp2_with fail
          refine (target_ok ga la de lo _ HC2.out (by omega)).mono ?_
          rintro e w5 ⟨rfl, hb⟩
          have C5 := hid (C.out.below hb C.out.lt)
          have B5 := hid (BB.out.trans (hb.mono BB.out.size))
          clear hb cC
          cases hs : absB (tgt ga lo) 16777216
          · have R : Hid (32 = chkC kp ki sh lo hi rate ga la de) := hid (by simp [chkC, HC.out, HC2.out, hs])
            go_wp2_with (go_at_call 66; refine (signal_any _ _).mono ?_; rintro e v9 ⟨rfl, rfl⟩)
            go_ret
            exact ⟨ret_i R.out, B5.out⟩
          · have HS := hid hs
            go_wp2_with (go_at_call 66; refine (signal_any _ _).mono ?_; rintro e v9 ⟨rfl, rfl⟩)
            go_roundw
            case rel => exact ⟨1, by omega, by go_num, fun _ => HS.out, by omega, C5.out, B5.out⟩
            case measure => simp [intOf]
        · rcases Nat.lt_or_ge k 2 with h1 | h1
          · obtain rfl : k = 1 := by omega
            have ix := idx1 lo hi wr
            go_wp2_with fail
            refine (target_ok ga la de hi _ HC2.out (by omega)).mono ?_
            rintro e w5 ⟨rfl, hb⟩
            have C5 := hid (C.out.below hb C.out.lt)
            have B5 := hid (BB.out.trans (hb.mono BB.out.size))
            clear hb cC
            cases hs : absB (tgt ga hi) 16777216
            · have R : Hid (32 = chkC kp ki sh lo hi rate ga la de) := hid (by simp [chkC, HC.out, HC2.out, hs])
              go_wp2_with (go_at_call 66; refine (signal_any _ _).mono ?_; rintro e v9 ⟨rfl, rfl⟩)
              go_ret
              exact ⟨ret_i R.out, B5.out⟩
            · have HS := hid hs
              go_wp2_with (go_at_call 66; refine (signal_any _ _).mono ?_; rintro e v9 ⟨rfl, rfl⟩)
              go_roundw
              case rel => exact ⟨2, by omega, by go_num, fun _ => HL.out (by omega), fun _ => HS.out, C5.out, B5.out⟩
              case measure => simp [intOf]
          · obtain rfl : k = 2 := by omega
            have R : Hid (0 = chkC kp ki sh lo hi rate ga la de) := hid (by simp [chkC, HC.out, HC2.out, HL.out, HH.out])
            go_wp2
            go_ret
            exact ⟨ret_i R.out, BB.out⟩
    · have R : Hid (1 = chkC kp ki sh lo hi rate ga la de) := hid (by simp [chkC, hc, hc2])
      go_enter Try.func41, Try.ntmps41
      go_wp2_with fail
      refine (Ct.check_any _ _ _ _ _ _ _).mono ?_
      rintro e w1 ⟨rfl, hb⟩
      have C1 : Hid (Blk w1 (w.heap.size) 27 #[.int .i64 kp, .int .i64 ki, .int .i64 sh, .int .i64 lo, .int .i64 hi, .int .i64 rate, .int .i64 ga, .int .i64 la, .int .i64 de]) := hid (Blk.below (Blk.at_new _ (by simp)) hb (by simp <;> omega))
      have B1 : Hid (Below w.heap.size w w1) := hid (Below.trans ((Below.refl _ _).alloc (by simp <;> omega) _) (hb.mono (by simp <;> omega)))
      clear hb
      have cC_0 : ∀ (i : Nat), w1.cell? ⟨w.heap.size, i, none⟩ = (#[.int .i64 kp, .int .i64 ki, .int .i64 sh, .int .i64 lo, .int .i64 hi, .int .i64 rate, .int .i64 ga, .int .i64 la, .int .i64 de] : Array Value)[i]? := Blk.cell C1.out
      have cC_1 : ∀ (o0 : Obj) (i : Nat), (w1.alloc o0).cell? ⟨w.heap.size, i, none⟩ = (#[.int .i64 kp, .int .i64 ki, .int .i64 sh, .int .i64 lo, .int .i64 hi, .int .i64 rate, .int .i64 ga, .int .i64 la, .int .i64 de] : Array Value)[i]? := fun _ => Blk.cell (Blk.alloc C1.out _)
      have hz := HC.out
      rw [hz]
      go_wp2_with fail
      refine (check_any _ _ _ _).mono ?_
      rintro e w2 ⟨rfl, hb⟩
      have C2 := hid (Blk.below C1.out hb (Blk.lt C1.out))
      have B2 : Hid (Below w.heap.size w w2) := hid (Below.trans B1.out (hb.mono (Nat.le_trans B1.out.size (by simp <;> omega))))
      clear hb
      clear cC_0 cC_1
      have cC_0 : ∀ (i : Nat), w2.cell? ⟨w.heap.size, i, none⟩ = (#[.int .i64 kp, .int .i64 ki, .int .i64 sh, .int .i64 lo, .int .i64 hi, .int .i64 rate, .int .i64 ga, .int .i64 la, .int .i64 de] : Array Value)[i]? := Blk.cell C2.out
      have cC_1 : ∀ (o0 : Obj) (i : Nat), (w2.alloc o0).cell? ⟨w.heap.size, i, none⟩ = (#[.int .i64 kp, .int .i64 ki, .int .i64 sh, .int .i64 lo, .int .i64 hi, .int .i64 rate, .int .i64 ga, .int .i64 la, .int .i64 de] : Array Value)[i]? := fun _ => Blk.cell (Blk.alloc C2.out _)
      have hz2 := chkP_ne hc2
      rw [hz2]
      go_wp2
      go_ret
      exact ⟨ret_i R.out, B2.out⟩
  · have R : Hid (Ct.chk kp ki sh lo hi rate = chkC kp ki sh lo hi rate ga la de) := hid (by simp [chkC, hc])
    go_enter Try.func41, Try.ntmps41
    go_wp2_with fail
    refine (Ct.check_any _ _ _ _ _ _ _).mono ?_
    rintro e w1 ⟨rfl, hb⟩
    have C1 : Hid (Blk w1 (w.heap.size) 27 #[.int .i64 kp, .int .i64 ki, .int .i64 sh, .int .i64 lo, .int .i64 hi, .int .i64 rate, .int .i64 ga, .int .i64 la, .int .i64 de]) := hid (Blk.below (Blk.at_new _ (by simp)) hb (by simp <;> omega))
    have B1 : Hid (Below w.heap.size w w1) := hid (Below.trans ((Below.refl _ _).alloc (by simp <;> omega) _) (hb.mono (by simp <;> omega)))
    clear hb
    have cC_0 : ∀ (i : Nat), w1.cell? ⟨w.heap.size, i, none⟩ = (#[.int .i64 kp, .int .i64 ki, .int .i64 sh, .int .i64 lo, .int .i64 hi, .int .i64 rate, .int .i64 ga, .int .i64 la, .int .i64 de] : Array Value)[i]? := Blk.cell C1.out
    have cC_1 : ∀ (o0 : Obj) (i : Nat), (w1.alloc o0).cell? ⟨w.heap.size, i, none⟩ = (#[.int .i64 kp, .int .i64 ki, .int .i64 sh, .int .i64 lo, .int .i64 hi, .int .i64 rate, .int .i64 ga, .int .i64 la, .int .i64 de] : Array Value)[i]? := fun _ => Blk.cell (Blk.alloc C1.out _)
    have hz : (Ct.chk kp ki sh lo hi rate != 0) = true := by simpa using hc
    go_wp2
    go_ret
    exact ⟨ret_i R.out, B1.out⟩
set_option maxRecDepth 100000 in
set_option maxHeartbeats 4000000 in
theorem rccheck_any (kp ki sh lo hi rate ga la de : Int) (w : World) :
    Calls Try.prog 49 #[.agg #[.int .i64 kp, .int .i64 ki, .int .i64 sh, .int .i64 lo, .int .i64 hi, .int .i64 rate, .int .i64 ga, .int .i64 la, .int .i64 de]] w fun e w' => e = .returned (.int .i64 (chkC kp ki sh lo hi rate ga la de)) ∧ Below w.heap.size w w' := by
  by_cases hc : Ct.chk kp ki sh lo hi rate = 0
  · have HC := hid hc
    by_cases hc2 : chkP ga la de = 0
    · have HC2 := hid hc2
      have ck := Ct.chk_ok hc
      go_enter Try.func49, Try.ntmps49
      go_wp2_with fail
      refine (Ct.rcheck_any _ _ _ _ _ _ _).mono ?_
      rintro e w1 ⟨rfl, hb⟩
      have C1 : Hid (Blk w1 (w.heap.size) 27 #[.int .i64 kp, .int .i64 ki, .int .i64 sh, .int .i64 lo, .int .i64 hi, .int .i64 rate, .int .i64 ga, .int .i64 la, .int .i64 de]) := hid (Blk.below (Blk.at_new _ (by simp)) hb (by simp <;> omega))
      have B1 : Hid (Below w.heap.size w w1) := hid (Below.trans ((Below.refl _ _).alloc (by simp <;> omega) _) (hb.mono (by simp <;> omega)))
      clear hb
      have cC_0 : ∀ (i : Nat), w1.cell? ⟨w.heap.size, i, none⟩ = (#[.int .i64 kp, .int .i64 ki, .int .i64 sh, .int .i64 lo, .int .i64 hi, .int .i64 rate, .int .i64 ga, .int .i64 la, .int .i64 de] : Array Value)[i]? := Blk.cell C1.out
      have cC_1 : ∀ (o0 : Obj) (i : Nat), (w1.alloc o0).cell? ⟨w.heap.size, i, none⟩ = (#[.int .i64 kp, .int .i64 ki, .int .i64 sh, .int .i64 lo, .int .i64 hi, .int .i64 rate, .int .i64 ga, .int .i64 la, .int .i64 de] : Array Value)[i]? := fun _ => Blk.cell (Blk.alloc C1.out _)
      have hz := HC.out
      rw [hz]
      go_wp2_with fail
      refine (rcheck_any _ _ _ _).mono ?_
      rintro e w2 ⟨rfl, hb⟩
      have C2 := hid (Blk.below C1.out hb (Blk.lt C1.out))
      have B2 : Hid (Below w.heap.size w w2) := hid (Below.trans B1.out (hb.mono (Nat.le_trans B1.out.size (by simp <;> omega))))
      clear hb
      clear cC_0 cC_1
      have cC_0 : ∀ (i : Nat), w2.cell? ⟨w.heap.size, i, none⟩ = (#[.int .i64 kp, .int .i64 ki, .int .i64 sh, .int .i64 lo, .int .i64 hi, .int .i64 rate, .int .i64 ga, .int .i64 la, .int .i64 de] : Array Value)[i]? := Blk.cell C2.out
      have cC_1 : ∀ (o0 : Obj) (i : Nat), (w2.alloc o0).cell? ⟨w.heap.size, i, none⟩ = (#[.int .i64 kp, .int .i64 ki, .int .i64 sh, .int .i64 lo, .int .i64 hi, .int .i64 rate, .int .i64 ga, .int .i64 la, .int .i64 de] : Array Value)[i]? := fun _ => Blk.cell (Blk.alloc C2.out _)
      have hz2 := HC2.out
      rw [hz2]
      go_wp2_with fail
      refine (rtarget_ok _ _ _ _ _ HC2.out (by omega)).mono ?_
      rintro e w3 ⟨rfl, hb⟩
      have C3 := hid (Blk.below C2.out hb (Blk.lt C2.out))
      have B3 : Hid (Below w.heap.size w w3) := hid (Below.trans B2.out (hb.mono (Nat.le_trans B2.out.size (by simp <;> omega))))
      clear hb
      clear cC_0 cC_1
      have cC_0 : ∀ (i : Nat), w3.cell? ⟨w.heap.size, i, none⟩ = (#[.int .i64 kp, .int .i64 ki, .int .i64 sh, .int .i64 lo, .int .i64 hi, .int .i64 rate, .int .i64 ga, .int .i64 la, .int .i64 de] : Array Value)[i]? := Blk.cell C3.out
      have cC_1 : ∀ (o0 : Obj) (i : Nat), (w3.alloc o0).cell? ⟨w.heap.size, i, none⟩ = (#[.int .i64 kp, .int .i64 ki, .int .i64 sh, .int .i64 lo, .int .i64 hi, .int .i64 rate, .int .i64 ga, .int .i64 la, .int .i64 de] : Array Value)[i]? := fun _ => Blk.cell (Blk.alloc C3.out _)
      go_wp2_with fail
      refine (rtarget_ok _ _ _ _ _ HC2.out (by omega)).mono ?_
      rintro e w4 ⟨rfl, hb⟩
      have C4 := hid (Blk.below C3.out hb (Blk.lt C3.out))
      have B4 : Hid (Below w.heap.size w w4) := hid (Below.trans B3.out (hb.mono (Nat.le_trans B3.out.size (by simp <;> omega))))
      clear hb
      clear cC_0 cC_1
      have cC_0 : ∀ (i : Nat), w4.cell? ⟨w.heap.size, i, none⟩ = (#[.int .i64 kp, .int .i64 ki, .int .i64 sh, .int .i64 lo, .int .i64 hi, .int .i64 rate, .int .i64 ga, .int .i64 la, .int .i64 de] : Array Value)[i]? := Blk.cell C4.out
      have cC_1 : ∀ (o0 : Obj) (i : Nat), (w4.alloc o0).cell? ⟨w.heap.size, i, none⟩ = (#[.int .i64 kp, .int .i64 ki, .int .i64 sh, .int .i64 lo, .int .i64 hi, .int .i64 rate, .int .i64 ga, .int .i64 la, .int .i64 de] : Array Value)[i]? := fun _ => Blk.cell (Blk.alloc C4.out _)
      have RR : Hid ((if (absB (tgt ga lo) 16777216 && absB (tgt ga hi) 16777216) = true then 0 else 32) = chkC kp ki sh lo hi rate ga la de) := hid (by simp [chkC, HC.out, HC2.out])
      cases hs : absB (tgt ga lo) 16777216
      · have R : Hid (32 = chkC kp ki sh lo hi rate ga la de) := hid (by rw [← RR.out, hs]; rfl)
        go_wp2_with (go_at_call 74; refine (rsignal_any _ _).mono ?_; rintro e v9 ⟨rfl, rfl⟩)
        go_ret
        exact ⟨ret_i R.out, B4.out⟩
      · cases hs2 : absB (tgt ga hi) 16777216
        · have R : Hid (32 = chkC kp ki sh lo hi rate ga la de) := hid (by rw [← RR.out, hs, hs2]; rfl)
          go_wp2_with (go_at_call 74; refine (rsignal_any _ _).mono ?_; rintro e v9 ⟨rfl, rfl⟩)
          go_ret
          exact ⟨ret_i R.out, B4.out⟩
        · have R : Hid (0 = chkC kp ki sh lo hi rate ga la de) := hid (by rw [← RR.out, hs, hs2]; rfl)
          go_wp2_with (go_at_call 74; refine (rsignal_any _ _).mono ?_; rintro e v9 ⟨rfl, rfl⟩)
          go_ret
          exact ⟨ret_i R.out, B4.out⟩
    · have R : Hid (1 = chkC kp ki sh lo hi rate ga la de) := hid (by simp [chkC, hc, hc2])
      go_enter Try.func49, Try.ntmps49
      go_wp2_with fail
      refine (Ct.rcheck_any _ _ _ _ _ _ _).mono ?_
      rintro e w1 ⟨rfl, hb⟩
      have C1 : Hid (Blk w1 (w.heap.size) 27 #[.int .i64 kp, .int .i64 ki, .int .i64 sh, .int .i64 lo, .int .i64 hi, .int .i64 rate, .int .i64 ga, .int .i64 la, .int .i64 de]) := hid (Blk.below (Blk.at_new _ (by simp)) hb (by simp <;> omega))
      have B1 : Hid (Below w.heap.size w w1) := hid (Below.trans ((Below.refl _ _).alloc (by simp <;> omega) _) (hb.mono (by simp <;> omega)))
      clear hb
      have cC_0 : ∀ (i : Nat), w1.cell? ⟨w.heap.size, i, none⟩ = (#[.int .i64 kp, .int .i64 ki, .int .i64 sh, .int .i64 lo, .int .i64 hi, .int .i64 rate, .int .i64 ga, .int .i64 la, .int .i64 de] : Array Value)[i]? := Blk.cell C1.out
      have cC_1 : ∀ (o0 : Obj) (i : Nat), (w1.alloc o0).cell? ⟨w.heap.size, i, none⟩ = (#[.int .i64 kp, .int .i64 ki, .int .i64 sh, .int .i64 lo, .int .i64 hi, .int .i64 rate, .int .i64 ga, .int .i64 la, .int .i64 de] : Array Value)[i]? := fun _ => Blk.cell (Blk.alloc C1.out _)
      have hz := HC.out
      rw [hz]
      go_wp2_with fail
      refine (rcheck_any _ _ _ _).mono ?_
      rintro e w2 ⟨rfl, hb⟩
      have C2 := hid (Blk.below C1.out hb (Blk.lt C1.out))
      have B2 : Hid (Below w.heap.size w w2) := hid (Below.trans B1.out (hb.mono (Nat.le_trans B1.out.size (by simp <;> omega))))
      clear hb
      clear cC_0 cC_1
      have cC_0 : ∀ (i : Nat), w2.cell? ⟨w.heap.size, i, none⟩ = (#[.int .i64 kp, .int .i64 ki, .int .i64 sh, .int .i64 lo, .int .i64 hi, .int .i64 rate, .int .i64 ga, .int .i64 la, .int .i64 de] : Array Value)[i]? := Blk.cell C2.out
      have cC_1 : ∀ (o0 : Obj) (i : Nat), (w2.alloc o0).cell? ⟨w.heap.size, i, none⟩ = (#[.int .i64 kp, .int .i64 ki, .int .i64 sh, .int .i64 lo, .int .i64 hi, .int .i64 rate, .int .i64 ga, .int .i64 la, .int .i64 de] : Array Value)[i]? := fun _ => Blk.cell (Blk.alloc C2.out _)
      have hz2 := chkP_ne hc2
      rw [hz2]
      go_wp2
      go_ret
      exact ⟨ret_i R.out, B2.out⟩
  · have R : Hid (Ct.chk kp ki sh lo hi rate = chkC kp ki sh lo hi rate ga la de) := hid (by simp [chkC, hc])
    go_enter Try.func49, Try.ntmps49
    go_wp2_with fail
    refine (Ct.rcheck_any _ _ _ _ _ _ _).mono ?_
    rintro e w1 ⟨rfl, hb⟩
    have C1 : Hid (Blk w1 (w.heap.size) 27 #[.int .i64 kp, .int .i64 ki, .int .i64 sh, .int .i64 lo, .int .i64 hi, .int .i64 rate, .int .i64 ga, .int .i64 la, .int .i64 de]) := hid (Blk.below (Blk.at_new _ (by simp)) hb (by simp <;> omega))
    have B1 : Hid (Below w.heap.size w w1) := hid (Below.trans ((Below.refl _ _).alloc (by simp <;> omega) _) (hb.mono (by simp <;> omega)))
    clear hb
    have cC_0 : ∀ (i : Nat), w1.cell? ⟨w.heap.size, i, none⟩ = (#[.int .i64 kp, .int .i64 ki, .int .i64 sh, .int .i64 lo, .int .i64 hi, .int .i64 rate, .int .i64 ga, .int .i64 la, .int .i64 de] : Array Value)[i]? := Blk.cell C1.out
    have cC_1 : ∀ (o0 : Obj) (i : Nat), (w1.alloc o0).cell? ⟨w.heap.size, i, none⟩ = (#[.int .i64 kp, .int .i64 ki, .int .i64 sh, .int .i64 lo, .int .i64 hi, .int .i64 rate, .int .i64 ga, .int .i64 la, .int .i64 de] : Array Value)[i]? := fun _ => Blk.cell (Blk.alloc C1.out _)
    have hz : (Ct.chk kp ki sh lo hi rate != 0) = true := by simpa using hc
    go_wp2
    go_ret
    exact ⟨ret_i R.out, B1.out⟩

/-! ### Limits -/
def limErr (kp ki sh lo hi rate ga la de x : Int) : Int := if chkC kp ki sh lo hi rate ga la de ≠ 0 then chkC kp ki sh lo hi rate ga la de else if 0 ≤ x ∧ x ≤ 65536 then 0 else 1
def limLo (kp ki sh lo hi rate ga la de x : Int) : Int := if limErr kp ki sh lo hi rate ga la de x = 0 then tgt ga lo - x * la else 0
def limHi (kp ki sh lo hi rate ga la de x : Int) : Int := if limErr kp ki sh lo hi rate ga la de x = 0 then tgt ga hi + x * la else 0
theorem chkC_ok {kp ki sh lo hi rate ga la de : Int} (h : chkC kp ki sh lo hi rate ga la de = 0) : Ct.chk kp ki sh lo hi rate = 0 ∧ chkP ga la de = 0 ∧ absB (tgt ga lo) 16777216 = true ∧ absB (tgt ga hi) 16777216 = true := by
  unfold chkC at h
  split at h
  · rename_i hq; exact absurd h hq
  · rename_i hq
    split at h
    · cases h
    · rename_i hq2
      split at h
      · rename_i hb
        simp only [Bool.and_eq_true] at hb
        exact ⟨by simpa using hq, by simpa using hq2, hb⟩
      · cases h
theorem bd_of {kp ki sh lo hi rate ga la de x : Int} (h : chkC kp ki sh lo hi rate ga la de = 0) (hx : 0 ≤ x ∧ x ≤ 65536) : bdErr ga la de lo hi x = 0 := by
  obtain ⟨h1, h2, _, _⟩ := chkC_ok h
  have ck := Ct.chk_ok h1
  unfold bdErr
  rw [if_neg (by omega), if_pos ⟨absB_mk (by omega) (by omega), absB_mk (by omega) (by omega), hx.1, hx.2⟩, if_neg (by omega)]
end Go.Proofs.Ytddphdkhaaolmaa
