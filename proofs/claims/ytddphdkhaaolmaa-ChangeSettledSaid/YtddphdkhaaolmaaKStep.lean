/- Controllers: one step, whatever comes in. -/
import Derived.Test.YtddphdkhaaolmaaKControl
namespace Go.Proofs.Ytddphdkhaaolmaa.Ct
open Go.RowKit

/-- What Step returns. -/
def stepRes (kp ki sh lo hi rate out last set value : Int) : Value := .tuple #[.agg #[.int .i64 (if stepErr kp ki sh lo hi rate out last set value = 0 then stepOut kp ki sh lo hi rate out last set value else 0), .int .i64 (if stepErr kp ki sh lo hi rate out last set value = 0 then set - value else 0)], .int .i64 (stepErr kp ki sh lo hi rate out last set value)]

set_option maxRecDepth 100000 in
set_option maxHeartbeats 1000000 in
theorem step_any (kp ki sh lo hi rate out last set value : Int) (w : World) :
    Calls Try.prog 94 #[.agg #[.int .i64 kp, .int .i64 ki, .int .i64 sh, .int .i64 lo, .int .i64 hi, .int .i64 rate], .agg #[.int .i64 out, .int .i64 last], .int .i64 set, .int .i64 value] w fun e w' =>
      e = .returned (stepRes kp ki sh lo hi rate out last set value) ∧ Below w.heap.size w w' := by
  have fin1 : ∀ x, (x = stepErr kp ki sh lo hi rate out last set value ∧ x ≠ 0) → ∀ w', Below w.heap.size w w' → Ending.returned (.tuple #[.agg #[.int .i64 0, .int .i64 0], .int .i64 x]) = .returned (stepRes kp ki sh lo hi rate out last set value) ∧ Below w.heap.size w w' := by
    rintro x ⟨rfl, h⟩ w' hb
    unfold stepRes
    rw [if_neg h, if_neg h]
    exact ⟨rfl, hb⟩
  have F := hid fin1
  clear fin1
  by_cases hc : chk kp ki sh lo hi rate = 0
  · cases h1 : inB out lo hi
    · have R : Hid (13 = stepErr kp ki sh lo hi rate out last set value ∧ (13 : Int) ≠ 0) := hid (by simp [stepErr, hc, h1])
      go_enter Try.func94, Try.ntmps94
      go_wp2_with fail
      refine (check_any _ _ _ _ _ _ _).mono ?_
      rintro e w1 ⟨rfl, hb1⟩
      have G : Blk w1 w.heap.size 23 #[.int .i64 kp, .int .i64 ki, .int .i64 sh, .int .i64 lo, .int .i64 hi, .int .i64 rate] := Blk.below (((Blk.new w _ _).alloc _).alloc _) hb1 (by simp; omega)
      have C : Blk w1 (w.heap.size + 1) 127 #[.int .i64 out, .int .i64 last] := Blk.below (((by simpa using Blk.new (w.alloc _) 127 #[.int .i64 out, .int .i64 last]) : Blk ((w.alloc _).alloc _) (w.heap.size + 1) 127 #[.int .i64 out, .int .i64 last]).alloc _) hb1 (by simp)
      have R : Blk w1 (w.heap.size + 1 + 1) 127 #[.int .i64 0, .int .i64 0] := Blk.below (by simpa using Blk.new ((w.alloc _).alloc _) 127 #[.int .i64 0, .int .i64 0]) hb1 (by simp)
      have hB : Below w.heap.size w w1 := ((((Below.refl _ _).alloc (Nat.le_refl _) _).alloc (by simp) _).alloc (by simp; omega) _).trans (hb1.mono (by simp; omega))
      have g0 := G.cell
      have g1 := C.cell
      have g2 := R.cell
      have g3 := R.frozen
      have HB := hid hB
      have HR := hid R
      clear hb1 hB G C R
      go_wp2_with (go_at_call 87; refine (in_any _ _ _ _).mono ?_; rintro e w' ⟨rfl, rfl⟩)
      have k0 := (HR.out.set 0 (.int .i64 0)).cell 0
      have k1 := ((HR.out.set 0 (.int .i64 0)).set 1 (.int .i64 0)).cell 1
      simp at k0 k1
      refine bodyPost_ret (v := .tuple #[.agg #[.int .i64 0, .int .i64 0], .int .i64 (13)]) (by simp [results, Try.results94, go_sem, k0, k1]) rfl ?_
      exact F.out _ R.out _ (HB.out.trans (((Below.refl _ _).setCell (by simp; omega) _).setCell (by simp; omega) _))
    · cases h2 : inB last (-67108864) 67108864
      · have R : Hid (13 = stepErr kp ki sh lo hi rate out last set value ∧ (13 : Int) ≠ 0) := hid (by simp [stepErr, hc, h1, h2])
        go_enter Try.func94, Try.ntmps94
        go_wp2_with fail
        refine (check_any _ _ _ _ _ _ _).mono ?_
        rintro e w1 ⟨rfl, hb1⟩
        have G : Blk w1 w.heap.size 23 #[.int .i64 kp, .int .i64 ki, .int .i64 sh, .int .i64 lo, .int .i64 hi, .int .i64 rate] := Blk.below (((Blk.new w _ _).alloc _).alloc _) hb1 (by simp; omega)
        have C : Blk w1 (w.heap.size + 1) 127 #[.int .i64 out, .int .i64 last] := Blk.below (((by simpa using Blk.new (w.alloc _) 127 #[.int .i64 out, .int .i64 last]) : Blk ((w.alloc _).alloc _) (w.heap.size + 1) 127 #[.int .i64 out, .int .i64 last]).alloc _) hb1 (by simp)
        have R : Blk w1 (w.heap.size + 1 + 1) 127 #[.int .i64 0, .int .i64 0] := Blk.below (by simpa using Blk.new ((w.alloc _).alloc _) 127 #[.int .i64 0, .int .i64 0]) hb1 (by simp)
        have hB : Below w.heap.size w w1 := ((((Below.refl _ _).alloc (Nat.le_refl _) _).alloc (by simp) _).alloc (by simp; omega) _).trans (hb1.mono (by simp; omega))
        have g0 := G.cell
        have g1 := C.cell
        have g2 := R.cell
        have g3 := R.frozen
        have HB := hid hB
        have HR := hid R
        clear hb1 hB G C R
        go_wp2_with (go_at_call 87; refine (in_any _ _ _ _).mono ?_; rintro e w' ⟨rfl, rfl⟩)
        have k0 := (HR.out.set 0 (.int .i64 0)).cell 0
        have k1 := ((HR.out.set 0 (.int .i64 0)).set 1 (.int .i64 0)).cell 1
        simp at k0 k1
        refine bodyPost_ret (v := .tuple #[.agg #[.int .i64 0, .int .i64 0], .int .i64 (13)]) (by simp [results, Try.results94, go_sem, k0, k1]) rfl ?_
        exact F.out _ R.out _ (HB.out.trans (((Below.refl _ _).setCell (by simp; omega) _).setCell (by simp; omega) _))
      · cases h3 : inB set (-33554432) 33554432
        · have R : Hid (1 = stepErr kp ki sh lo hi rate out last set value ∧ (1 : Int) ≠ 0) := hid (by simp [stepErr, hc, h1, h2, h3])
          go_enter Try.func94, Try.ntmps94
          go_wp2_with fail
          refine (check_any _ _ _ _ _ _ _).mono ?_
          rintro e w1 ⟨rfl, hb1⟩
          have G : Blk w1 w.heap.size 23 #[.int .i64 kp, .int .i64 ki, .int .i64 sh, .int .i64 lo, .int .i64 hi, .int .i64 rate] := Blk.below (((Blk.new w _ _).alloc _).alloc _) hb1 (by simp; omega)
          have C : Blk w1 (w.heap.size + 1) 127 #[.int .i64 out, .int .i64 last] := Blk.below (((by simpa using Blk.new (w.alloc _) 127 #[.int .i64 out, .int .i64 last]) : Blk ((w.alloc _).alloc _) (w.heap.size + 1) 127 #[.int .i64 out, .int .i64 last]).alloc _) hb1 (by simp)
          have R : Blk w1 (w.heap.size + 1 + 1) 127 #[.int .i64 0, .int .i64 0] := Blk.below (by simpa using Blk.new ((w.alloc _).alloc _) 127 #[.int .i64 0, .int .i64 0]) hb1 (by simp)
          have hB : Below w.heap.size w w1 := ((((Below.refl _ _).alloc (Nat.le_refl _) _).alloc (by simp) _).alloc (by simp; omega) _).trans (hb1.mono (by simp; omega))
          have g0 := G.cell
          have g1 := C.cell
          have g2 := R.cell
          have g3 := R.frozen
          have HB := hid hB
          have HR := hid R
          clear hb1 hB G C R
          go_wp2_with (go_at_call 87; refine (in_any _ _ _ _).mono ?_; rintro e w' ⟨rfl, rfl⟩)
          have k0 := (HR.out.set 0 (.int .i64 0)).cell 0
          have k1 := ((HR.out.set 0 (.int .i64 0)).set 1 (.int .i64 0)).cell 1
          simp at k0 k1
          refine bodyPost_ret (v := .tuple #[.agg #[.int .i64 0, .int .i64 0], .int .i64 (1)]) (by simp [results, Try.results94, go_sem, k0, k1]) rfl ?_
          exact F.out _ R.out _ (HB.out.trans (((Below.refl _ _).setCell (by simp; omega) _).setCell (by simp; omega) _))
        · cases h4 : inB value (-33554432) 33554432
          · have R : Hid (1 = stepErr kp ki sh lo hi rate out last set value ∧ (1 : Int) ≠ 0) := hid (by simp [stepErr, hc, h1, h2, h3, h4])
            go_enter Try.func94, Try.ntmps94
            go_wp2_with fail
            refine (check_any _ _ _ _ _ _ _).mono ?_
            rintro e w1 ⟨rfl, hb1⟩
            have G : Blk w1 w.heap.size 23 #[.int .i64 kp, .int .i64 ki, .int .i64 sh, .int .i64 lo, .int .i64 hi, .int .i64 rate] := Blk.below (((Blk.new w _ _).alloc _).alloc _) hb1 (by simp; omega)
            have C : Blk w1 (w.heap.size + 1) 127 #[.int .i64 out, .int .i64 last] := Blk.below (((by simpa using Blk.new (w.alloc _) 127 #[.int .i64 out, .int .i64 last]) : Blk ((w.alloc _).alloc _) (w.heap.size + 1) 127 #[.int .i64 out, .int .i64 last]).alloc _) hb1 (by simp)
            have R : Blk w1 (w.heap.size + 1 + 1) 127 #[.int .i64 0, .int .i64 0] := Blk.below (by simpa using Blk.new ((w.alloc _).alloc _) 127 #[.int .i64 0, .int .i64 0]) hb1 (by simp)
            have hB : Below w.heap.size w w1 := ((((Below.refl _ _).alloc (Nat.le_refl _) _).alloc (by simp) _).alloc (by simp; omega) _).trans (hb1.mono (by simp; omega))
            have g0 := G.cell
            have g1 := C.cell
            have g2 := R.cell
            have g3 := R.frozen
            have HB := hid hB
            have HR := hid R
            clear hb1 hB G C R
            go_wp2_with (go_at_call 87; refine (in_any _ _ _ _).mono ?_; rintro e w' ⟨rfl, rfl⟩)
            have k0 := (HR.out.set 0 (.int .i64 0)).cell 0
            have k1 := ((HR.out.set 0 (.int .i64 0)).set 1 (.int .i64 0)).cell 1
            simp at k0 k1
            refine bodyPost_ret (v := .tuple #[.agg #[.int .i64 0, .int .i64 0], .int .i64 (1)]) (by simp [results, Try.results94, go_sem, k0, k1]) rfl ?_
            exact F.out _ R.out _ (HB.out.trans (((Below.refl _ _).setCell (by simp; omega) _).setCell (by simp; omega) _))
          · have h0 : stepErr kp ki sh lo hi rate out last set value = 0 := by simp [stepErr, hc, h1, h2, h3, h4]
            unfold stepRes
            rw [h0, if_pos rfl, if_pos rfl]
            exact step_ok _ _ _ _ _ _ _ _ _ _ w hc h1 h2 h3 h4
  · have R : Hid (chk kp ki sh lo hi rate = stepErr kp ki sh lo hi rate out last set value ∧ chk kp ki sh lo hi rate ≠ 0) := hid ⟨by simp [stepErr, hc], hc⟩
    go_enter Try.func94, Try.ntmps94
    go_wp2_with fail
    refine (check_any _ _ _ _ _ _ _).mono ?_
    rintro e w1 ⟨rfl, hb1⟩
    have G : Blk w1 w.heap.size 23 #[.int .i64 kp, .int .i64 ki, .int .i64 sh, .int .i64 lo, .int .i64 hi, .int .i64 rate] := Blk.below (((Blk.new w _ _).alloc _).alloc _) hb1 (by simp; omega)
    have C : Blk w1 (w.heap.size + 1) 127 #[.int .i64 out, .int .i64 last] := Blk.below (((by simpa using Blk.new (w.alloc _) 127 #[.int .i64 out, .int .i64 last]) : Blk ((w.alloc _).alloc _) (w.heap.size + 1) 127 #[.int .i64 out, .int .i64 last]).alloc _) hb1 (by simp)
    have R : Blk w1 (w.heap.size + 1 + 1) 127 #[.int .i64 0, .int .i64 0] := Blk.below (by simpa using Blk.new ((w.alloc _).alloc _) 127 #[.int .i64 0, .int .i64 0]) hb1 (by simp)
    have hB : Below w.heap.size w w1 := ((((Below.refl _ _).alloc (Nat.le_refl _) _).alloc (by simp) _).alloc (by simp; omega) _).trans (hb1.mono (by simp; omega))
    have g0 := G.cell
    have g1 := C.cell
    have g2 := R.cell
    have g3 := R.frozen
    have HB := hid hB
    have HR := hid R
    clear hb1 hB G C R
    go_wp2_with (go_at_call 87; refine (in_any _ _ _ _).mono ?_; rintro e w' ⟨rfl, rfl⟩)
    have k0 := (HR.out.set 0 (.int .i64 0)).cell 0
    have k1 := ((HR.out.set 0 (.int .i64 0)).set 1 (.int .i64 0)).cell 1
    simp at k0 k1
    refine bodyPost_ret (v := .tuple #[.agg #[.int .i64 0, .int .i64 0], .int .i64 (chk kp ki sh lo hi rate)]) (by simp [results, Try.results94, go_sem, k0, k1]) rfl ?_
    exact F.out _ R.out _ (HB.out.trans (((Below.refl _ _).setCell (by simp; omega) _).setCell (by simp; omega) _))
end Go.Proofs.Ytddphdkhaaolmaa.Ct
