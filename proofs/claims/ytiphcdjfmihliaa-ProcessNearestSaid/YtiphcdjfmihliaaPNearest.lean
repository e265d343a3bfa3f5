/- ProcessNearest. -/
import Derived.Test.YtiphcdjfmihliaaPlain26
namespace Go.Proofs.Ytiphcdjfmihliaa
open Go.RowKit

theorem clamp_any (n lo hi : Int) (w : World) : Calls Try.prog 27 #[.int .i64 n, .int .i64 lo, .int .i64 hi] w fun e w' => e = .returned (.int .i64 (clampI n lo hi)) ∧ w = w' := by
  go_enter Try.func27, Try.ntmps27
  go_wp2
  all_goals go_ret
  all_goals refine ⟨ret_i ?_, rfl⟩
  all_goals unfold clampI
  all_goals omega
theorem below_drewN {B : Nat} {a w : World} (h : Below B a w) (n : Nat) : Below B a (w.drewN n) := ⟨h.os, h.tape, h.output, h.size, h.block⟩
theorem target_ok (ga la de n : Int) (w : World) (hc : chkP ga la de = 0) (h : -16777216 ≤ n ∧ n ≤ 16777216) : Calls Try.prog 12 #[.agg #[.int .i64 ga, .int .i64 la, .int .i64 de], .int .i64 n] w fun e w' => e = .returned (.tuple #[.int .i64 (tgt ga n), .int .i64 0]) ∧ Below w.heap.size w w' := by
  have h0 : tgtErr ga la de n = 0 := by unfold tgtErr; rw [if_neg (by omega), if_pos (absB_mk h.1 h.2)]
  have := Target_any ga la de n w
  unfold tgtN at this
  rw [h0, if_pos rfl] at this
  exact this
theorem rest_ok {ga la de lo hi v : Int} (h : restErr ga la de lo hi v = 0) : chkP ga la de = 0 ∧ -16777216 ≤ lo ∧ lo ≤ 16777216 ∧ -16777216 ≤ hi ∧ hi ≤ 16777216 ∧ lo ≤ hi ∧ -268435456 ≤ v ∧ v ≤ 268435456 := by
  unfold restErr at h
  split at h
  · rename_i hq; exact absurd h hq
  · rename_i hq
    have hb := bd_ok (by simpa using hq : bdErr ga la de lo hi 0 = 0)
    split at h
    · rename_i ha
      have := absB_true ha
      omega
    · cases h
set_option maxHeartbeats 1000000 in
theorem processNearest_walk (x0 : Int) (x1 : Int) (x2 : Int) (x3 : Int) (x4 : Int) (x5 : Int) (x6 : Int) (w : World) (_h0 : (Lit.int .i64 x0).wf = true) (_h1 : (Lit.int .i64 x1).wf = true) (_h2 : (Lit.int .i64 x2).wf = true) (_h3 : (Lit.int .i64 x3).wf = true) (_h4 : (Lit.int .i64 x4).wf = true) (_h5 : (Lit.int .i64 x5).wf = true) (_h6 : (Lit.int .i64 x6).wf = true) :
    Calls Try.prog 10 #[.agg #[.int .i64 x0, .int .i64 x1, .int .i64 x2], .agg #[.int .i64 x3, .int .i64 x4, .int .i64 x5, .int .i64 x6]] w fun e w' => e = .returned (.bool true) ∧ Below w.heap.size w w' := by
  by_cases he : restErr x0 x1 x2 x3 x4 x5 = 0
  · have HE := hid he
    have hb0 := rest_ok he
    go_enter Try.func10, Try.ntmps10
    go_wp2_with fail
    refine (rest_any _ _ _ _ _ _ _).mono ?_
    rintro e w1 ⟨n, rfl, n1, n2, hb⟩
    have G1 : Hid (Blk w1 (w.heap.size) 23 #[.int .i64 x0, .int .i64 x1, .int .i64 x2]) := hid (Blk.below (Blk.alloc (Blk.at_new _ (by simp)) _) hb (by simp <;> omega))
    have X1 : Hid (Blk w1 (w.heap.size + 1) 41 #[.int .i64 x3, .int .i64 x4, .int .i64 x5, .int .i64 x6]) := hid (Blk.below (Blk.at_new _ (by simp)) hb (by simp <;> omega))
    have B1 : Hid (Below w.heap.size w w1) := hid (Below.trans (((Below.refl _ _).alloc (by simp <;> omega) _).alloc (by simp <;> omega) _) (hb.mono (by simp <;> omega)))
    clear hb
    have cG_0 : ∀ (i : Nat), w1.cell? ⟨w.heap.size, i, none⟩ = (#[.int .i64 x0, .int .i64 x1, .int .i64 x2] : Array Value)[i]? := Blk.cell G1.out
    have cG_1 : ∀ (o0 : Obj) (i : Nat), (w1.alloc o0).cell? ⟨w.heap.size, i, none⟩ = (#[.int .i64 x0, .int .i64 x1, .int .i64 x2] : Array Value)[i]? := fun _ => Blk.cell (Blk.alloc G1.out _)
    have cX_0 : ∀ (i : Nat), w1.cell? ⟨w.heap.size + 1, i, none⟩ = (#[.int .i64 x3, .int .i64 x4, .int .i64 x5, .int .i64 x6] : Array Value)[i]? := Blk.cell X1.out
    have cX_1 : ∀ (o0 : Obj) (i : Nat), (w1.alloc o0).cell? ⟨w.heap.size + 1, i, none⟩ = (#[.int .i64 x3, .int .i64 x4, .int .i64 x5, .int .i64 x6] : Array Value)[i]? := fun _ => Blk.cell (Blk.alloc X1.out _)
    have HI := hid (n1 HE.out)
    have q1 := HI.out.1
    have q2 := HI.out.2.1
    clear n1 n2
    have cl := clampI_in (n := x6) (lo := x3) (hi := x4) (by omega)
    have HM := hid (HI.out.2.2 (clampI x6 x3 x4) cl.1 cl.2)
    obtain ⟨m, hm⟩ : ∃ m, clampI x6 x3 x4 = m := ⟨_, rfl⟩
    rw [hm] at cl HM
    go_wp2_with (go_at_call 27; refine (clamp_any _ _ _ _).mono ?_; rintro e w2 ⟨rfl, rfl⟩; rw [hm])
    refine (target_ok _ _ _ _ _ hb0.1 (by omega)).mono ?_
    rintro e w2 ⟨rfl, hb⟩
    have G2 := hid (Blk.below G1.out hb (Blk.lt G1.out))
    have X2 := hid (Blk.below X1.out hb (Blk.lt X1.out))
    have B2 : Hid (Below w.heap.size w w2) := hid (Below.trans B1.out (hb.mono (Nat.le_trans B1.out.size (by simp <;> omega))))
    clear hb
    clear cG_0 cG_1 cX_0 cX_1
    have cG_0 : ∀ (i : Nat), w2.cell? ⟨w.heap.size, i, none⟩ = (#[.int .i64 x0, .int .i64 x1, .int .i64 x2] : Array Value)[i]? := Blk.cell G2.out
    have cG_1 : ∀ (o0 : Obj) (i : Nat), (w2.alloc o0).cell? ⟨w.heap.size, i, none⟩ = (#[.int .i64 x0, .int .i64 x1, .int .i64 x2] : Array Value)[i]? := fun _ => Blk.cell (Blk.alloc G2.out _)
    have cX_0 : ∀ (i : Nat), w2.cell? ⟨w.heap.size + 1, i, none⟩ = (#[.int .i64 x3, .int .i64 x4, .int .i64 x5, .int .i64 x6] : Array Value)[i]? := Blk.cell X2.out
    have cX_1 : ∀ (o0 : Obj) (i : Nat), (w2.alloc o0).cell? ⟨w.heap.size + 1, i, none⟩ = (#[.int .i64 x3, .int .i64 x4, .int .i64 x5, .int .i64 x6] : Array Value)[i]? := fun _ => Blk.cell (Blk.alloc X2.out _)
    go_wp2_with fail
    refine (target_ok _ _ _ _ _ hb0.1 (by omega)).mono ?_
    rintro e w3 ⟨rfl, hb⟩
    have G3 := hid (Blk.below G2.out hb (Blk.lt G2.out))
    have X3 := hid (Blk.below X2.out hb (Blk.lt X2.out))
    have B3 : Hid (Below w.heap.size w w3) := hid (Below.trans B2.out (hb.mono (Nat.le_trans B2.out.size (by simp <;> omega))))
    clear hb
    clear cG_0 cG_1 cX_0 cX_1
    have cG_0 : ∀ (i : Nat), w3.cell? ⟨w.heap.size, i, none⟩ = (#[.int .i64 x0, .int .i64 x1, .int .i64 x2] : Array Value)[i]? := Blk.cell G3.out
    have cG_1 : ∀ (o0 : Obj) (i : Nat), (w3.alloc o0).cell? ⟨w.heap.size, i, none⟩ = (#[.int .i64 x0, .int .i64 x1, .int .i64 x2] : Array Value)[i]? := fun _ => Blk.cell (Blk.alloc G3.out _)
    have cX_0 : ∀ (i : Nat), w3.cell? ⟨w.heap.size + 1, i, none⟩ = (#[.int .i64 x3, .int .i64 x4, .int .i64 x5, .int .i64 x6] : Array Value)[i]? := Blk.cell X3.out
    have cX_1 : ∀ (o0 : Obj) (i : Nat), (w3.alloc o0).cell? ⟨w.heap.size + 1, i, none⟩ = (#[.int .i64 x3, .int .i64 x4, .int .i64 x5, .int .i64 x6] : Array Value)[i]? := fun _ => Blk.cell (Blk.alloc X3.out _)
    have ck := chkP_ok hb0.1
    have t1 := tgt_bd (n := n) ck.1 ck.2.1 (by omega) (by omega)
    have t2 := tgt_bd (n := m) ck.1 ck.2.1 (by omega) (by omega)
    have hM := HM.out
    unfold farI at hM
    generalize tgt x0 n = A at t1 hM ⊢
    generalize tgt x0 m = B at t2 hM ⊢
    go_wp2_with fail
    have wa : IntKind.i64.wrap (A - x5) = A - x5 := IntWalk.i64_in _ (by omega)
    have wb : IntKind.i64.wrap (x5 - A) = x5 - A := IntWalk.i64_in _ (by omega)
    have wc : IntKind.i64.wrap (B - x5) = B - x5 := IntWalk.i64_in _ (by omega)
    have wd : IntKind.i64.wrap (x5 - B) = x5 - B := IntWalk.i64_in _ (by omega)
    rcases Int.lt_or_le (A - x5) (x5 - A) with sA | sA
    · rcases Int.lt_or_le (B - x5) (x5 - B) with sB | sB
      · have hN : x5 - A < x5 - B ∨ x5 - A = x5 - B ∧ n ≤ m := by omega
        clear hM
        have k1 : x5 - A ≤ x5 - B := by omega
        rcases hN with hN | hN
        · go_quiet (fail)
          go_wp2_with (go_at_call 16; refine (awake_any _).mono ?_; rintro e w4 ⟨rfl, hb⟩)
          go_ret
          exact ⟨rfl, (below_drewN B3.out _).trans (hb.mono B3.out.size)⟩
        · have hN2 := hN.2
          have hN1 : ¬ x5 - A < x5 - B := by omega
          go_quiet (fail)
          go_wp2_with (go_at_call 16; refine (awake_any _).mono ?_; rintro e w4 ⟨rfl, hb⟩)
          go_ret
          exact ⟨rfl, (below_drewN B3.out _).trans (hb.mono B3.out.size)⟩
      · have hN : x5 - A < B - x5 ∨ x5 - A = B - x5 ∧ n ≤ m := by omega
        clear hM
        have k1 : x5 - A ≤ B - x5 := by omega
        rcases hN with hN | hN
        · go_quiet (fail)
          go_wp2_with (go_at_call 16; refine (awake_any _).mono ?_; rintro e w4 ⟨rfl, hb⟩)
          go_ret
          exact ⟨rfl, (below_drewN B3.out _).trans (hb.mono B3.out.size)⟩
        · have hN2 := hN.2
          have hN1 : ¬ x5 - A < B - x5 := by omega
          go_quiet (fail)
          go_wp2_with (go_at_call 16; refine (awake_any _).mono ?_; rintro e w4 ⟨rfl, hb⟩)
          go_ret
          exact ⟨rfl, (below_drewN B3.out _).trans (hb.mono B3.out.size)⟩
    · rcases Int.lt_or_le (B - x5) (x5 - B) with sB | sB
      · have hN : A - x5 < x5 - B ∨ A - x5 = x5 - B ∧ n ≤ m := by omega
        clear hM
        have k1 : A - x5 ≤ x5 - B := by omega
        rcases hN with hN | hN
        · go_quiet (fail)
          go_wp2_with (go_at_call 16; refine (awake_any _).mono ?_; rintro e w4 ⟨rfl, hb⟩)
          go_ret
          exact ⟨rfl, (below_drewN B3.out _).trans (hb.mono B3.out.size)⟩
        · have hN2 := hN.2
          have hN1 : ¬ A - x5 < x5 - B := by omega
          go_quiet (fail)
          go_wp2_with (go_at_call 16; refine (awake_any _).mono ?_; rintro e w4 ⟨rfl, hb⟩)
          go_ret
          exact ⟨rfl, (below_drewN B3.out _).trans (hb.mono B3.out.size)⟩
      · have hN : A - x5 < B - x5 ∨ A - x5 = B - x5 ∧ n ≤ m := by omega
        clear hM
        have k1 : A - x5 ≤ B - x5 := by omega
        rcases hN with hN | hN
        · go_quiet (fail)
          go_wp2_with (go_at_call 16; refine (awake_any _).mono ?_; rintro e w4 ⟨rfl, hb⟩)
          go_ret
          exact ⟨rfl, (below_drewN B3.out _).trans (hb.mono B3.out.size)⟩
        · have hN2 := hN.2
          have hN1 : ¬ A - x5 < B - x5 := by omega
          go_quiet (fail)
          go_wp2_with (go_at_call 16; refine (awake_any _).mono ?_; rintro e w4 ⟨rfl, hb⟩)
          go_ret
          exact ⟨rfl, (below_drewN B3.out _).trans (hb.mono B3.out.size)⟩
  · have HE := hid he
    go_enter Try.func10, Try.ntmps10
    go_wp2_with fail
    refine (rest_any _ _ _ _ _ _ _).mono ?_
    rintro e w1 ⟨n, rfl, n1, n2, hb⟩
    have G1 : Hid (Blk w1 (w.heap.size) 23 #[.int .i64 x0, .int .i64 x1, .int .i64 x2]) := hid (Blk.below (Blk.alloc (Blk.at_new _ (by simp)) _) hb (by simp <;> omega))
    have X1 : Hid (Blk w1 (w.heap.size + 1) 41 #[.int .i64 x3, .int .i64 x4, .int .i64 x5, .int .i64 x6]) := hid (Blk.below (Blk.at_new _ (by simp)) hb (by simp <;> omega))
    have B1 : Hid (Below w.heap.size w w1) := hid (Below.trans (((Below.refl _ _).alloc (by simp <;> omega) _).alloc (by simp <;> omega) _) (hb.mono (by simp <;> omega)))
    clear hb
    have cG_0 : ∀ (i : Nat), w1.cell? ⟨w.heap.size, i, none⟩ = (#[.int .i64 x0, .int .i64 x1, .int .i64 x2] : Array Value)[i]? := Blk.cell G1.out
    have cG_1 : ∀ (o0 : Obj) (i : Nat), (w1.alloc o0).cell? ⟨w.heap.size, i, none⟩ = (#[.int .i64 x0, .int .i64 x1, .int .i64 x2] : Array Value)[i]? := fun _ => Blk.cell (Blk.alloc G1.out _)
    have cX_0 : ∀ (i : Nat), w1.cell? ⟨w.heap.size + 1, i, none⟩ = (#[.int .i64 x3, .int .i64 x4, .int .i64 x5, .int .i64 x6] : Array Value)[i]? := Blk.cell X1.out
    have cX_1 : ∀ (o0 : Obj) (i : Nat), (w1.alloc o0).cell? ⟨w.heap.size + 1, i, none⟩ = (#[.int .i64 x3, .int .i64 x4, .int .i64 x5, .int .i64 x6] : Array Value)[i]? := fun _ => Blk.cell (Blk.alloc X1.out _)
    obtain rfl := n2 HE.out
    clear n1 n2
    go_wp2_with fail
    refine (awake_any _).mono ?_
    rintro e w2 ⟨rfl, hb⟩
    have G2 := hid (Blk.below G1.out hb (Blk.lt G1.out))
    have X2 := hid (Blk.below X1.out hb (Blk.lt X1.out))
    have B2 : Hid (Below w.heap.size w w2) := hid (Below.trans B1.out (hb.mono (Nat.le_trans B1.out.size (by simp <;> omega))))
    clear hb
    clear cG_0 cG_1 cX_0 cX_1
    go_wp2
    go_ret
    exact ⟨rfl, B2.out⟩
end Go.Proofs.Ytiphcdjfmihliaa
