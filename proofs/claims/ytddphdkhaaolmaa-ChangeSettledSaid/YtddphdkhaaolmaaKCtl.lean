/- Controllers: start, settled, slowest, and the reference. -/
import Derived.Test.YtddphdkhaaolmaaKStep
namespace Go.Proofs.Ytddphdkhaaolmaa.Ct
open Go.RowKit

/-- What Start returns. -/
def startErr (kp ki sh lo hi rate out : Int) : Int := if chk kp ki sh lo hi rate ≠ 0 then chk kp ki sh lo hi rate else if inB out lo hi = true then 0 else 1
def startRes (kp ki sh lo hi rate out : Int) : Value := .tuple #[.agg #[.int .i64 (if startErr kp ki sh lo hi rate out = 0 then out else 0), .int .i64 0], .int .i64 (startErr kp ki sh lo hi rate out)]
def slowRes (kp ki sh lo hi rate : Int) : Value := .tuple #[.int .i64 (if chk kp ki sh lo hi rate = 0 then (hi - lo + rate - 1) / rate else 0), .int .i64 (chk kp ki sh lo hi rate)]
def settledB (kp ki sh lo hi rate out last set value : Int) : Bool := decide (stepErr kp ki sh lo hi rate out last set value = 0) && (decide (stepOut kp ki sh lo hi rate out last set value = out) && decide (set - value = last))
theorem start_eq {kp ki sh lo hi rate out a b : Int} (ha : a = if startErr kp ki sh lo hi rate out = 0 then out else 0) (hb : b = startErr kp ki sh lo hi rate out) : (.tuple #[.agg #[.int .i64 a, .int .i64 0], .int .i64 b] : Value) = startRes kp ki sh lo hi rate out := by subst ha hb; rfl
theorem slow_eq {kp ki sh lo hi rate a b : Int} (ha : a = if chk kp ki sh lo hi rate = 0 then (hi - lo + rate - 1) / rate else 0) (hb : b = chk kp ki sh lo hi rate) : (.tuple #[.int .i64 a, .int .i64 b] : Value) = slowRes kp ki sh lo hi rate := by subst ha hb; rfl

set_option maxRecDepth 100000 in
set_option maxHeartbeats 1000000 in
theorem start_any (kp ki sh lo hi rate out : Int) (w : World) :
    Calls Try.prog 92 #[.agg #[.int .i64 kp, .int .i64 ki, .int .i64 sh, .int .i64 lo, .int .i64 hi, .int .i64 rate], .int .i64 out] w fun e w' => e = .returned (startRes kp ki sh lo hi rate out) ∧ Below w.heap.size w w' := by
  by_cases hc : chk kp ki sh lo hi rate = 0
  · cases h1 : inB out lo hi
    · have R0 : Hid ((0 = if startErr kp ki sh lo hi rate out = 0 then out else 0) ∧ 1 = startErr kp ki sh lo hi rate out) := hid (by simp [startErr, hc, h1])
      go_enter Try.func92, Try.ntmps92
      go_wp2_with fail
      refine (check_any _ _ _ _ _ _ _).mono ?_
      rintro e w1 ⟨rfl, hb1⟩
      have G : Blk w1 w.heap.size 23 #[.int .i64 kp, .int .i64 ki, .int .i64 sh, .int .i64 lo, .int .i64 hi, .int .i64 rate] := Blk.below ((Blk.new w _ _).alloc _) hb1 (by simp; omega)
      have R : Blk w1 (w.heap.size + 1) 127 #[.int .i64 0, .int .i64 0] := Blk.below (by simpa using Blk.new (w.alloc _) 127 #[.int .i64 0, .int .i64 0]) hb1 (by simp)
      have hB : Below w.heap.size w w1 := (((Below.refl _ _).alloc (Nat.le_refl _) _).alloc (by simp) _).trans (hb1.mono (by simp; omega))
      have g0 := G.cell
      have g2 := R.cell
      have g3 := R.frozen
      have HB := hid hB
      have HR := hid R
      clear hb1 hB G R
      go_wp2_with (go_at_call 87; refine (in_any _ _ _ _).mono ?_; rintro e w' ⟨rfl, rfl⟩)
      have k0 := (HR.out.set 0 (.int .i64 0)).cell 0
      have k1 := ((HR.out.set 0 (.int .i64 0)).set 1 (.int .i64 0)).cell 1
      simp at k0 k1
      refine bodyPost_ret (v := .tuple #[.agg #[.int .i64 0, .int .i64 0], .int .i64 1]) (by simp [results, Try.results92, go_sem, k0, k1]) rfl ?_
      exact ⟨by rw [start_eq R0.out.1 R0.out.2], HB.out.trans (((Below.refl _ _).setCell (by simp) _).setCell (by simp) _)⟩
    · have R0 : Hid ((out = if startErr kp ki sh lo hi rate out = 0 then out else 0) ∧ 0 = startErr kp ki sh lo hi rate out) := hid (by simp [startErr, hc, h1])
      go_enter Try.func92, Try.ntmps92
      go_wp2_with fail
      refine (check_any _ _ _ _ _ _ _).mono ?_
      rintro e w1 ⟨rfl, hb1⟩
      have G : Blk w1 w.heap.size 23 #[.int .i64 kp, .int .i64 ki, .int .i64 sh, .int .i64 lo, .int .i64 hi, .int .i64 rate] := Blk.below ((Blk.new w _ _).alloc _) hb1 (by simp; omega)
      have R : Blk w1 (w.heap.size + 1) 127 #[.int .i64 0, .int .i64 0] := Blk.below (by simpa using Blk.new (w.alloc _) 127 #[.int .i64 0, .int .i64 0]) hb1 (by simp)
      have hB : Below w.heap.size w w1 := (((Below.refl _ _).alloc (Nat.le_refl _) _).alloc (by simp) _).trans (hb1.mono (by simp; omega))
      have g0 := G.cell
      have g2 := R.cell
      have g3 := R.frozen
      have HB := hid hB
      have HR := hid R
      clear hb1 hB G R
      go_wp2_with (go_at_call 87; refine (in_any _ _ _ _).mono ?_; rintro e w' ⟨rfl, rfl⟩)
      have k0 := (HR.out.set 0 (.int .i64 out)).cell 0
      have k1 := ((HR.out.set 0 (.int .i64 out)).set 1 (.int .i64 0)).cell 1
      simp at k0 k1
      refine bodyPost_ret (v := .tuple #[.agg #[.int .i64 out, .int .i64 0], .int .i64 0]) (by simp [results, Try.results92, go_sem, k0, k1]) rfl ?_
      exact ⟨by rw [start_eq R0.out.1 R0.out.2], HB.out.trans (((Below.refl _ _).setCell (by simp) _).setCell (by simp) _)⟩
  · have R0 : Hid ((0 = if startErr kp ki sh lo hi rate out = 0 then out else 0) ∧ chk kp ki sh lo hi rate = startErr kp ki sh lo hi rate out) := hid (by simp [startErr, hc])
    go_enter Try.func92, Try.ntmps92
    go_wp2_with fail
    refine (check_any _ _ _ _ _ _ _).mono ?_
    rintro e w1 ⟨rfl, hb1⟩
    have G : Blk w1 w.heap.size 23 #[.int .i64 kp, .int .i64 ki, .int .i64 sh, .int .i64 lo, .int .i64 hi, .int .i64 rate] := Blk.below ((Blk.new w _ _).alloc _) hb1 (by simp; omega)
    have R : Blk w1 (w.heap.size + 1) 127 #[.int .i64 0, .int .i64 0] := Blk.below (by simpa using Blk.new (w.alloc _) 127 #[.int .i64 0, .int .i64 0]) hb1 (by simp)
    have hB : Below w.heap.size w w1 := (((Below.refl _ _).alloc (Nat.le_refl _) _).alloc (by simp) _).trans (hb1.mono (by simp; omega))
    have g0 := G.cell
    have g2 := R.cell
    have g3 := R.frozen
    have HB := hid hB
    have HR := hid R
    clear hb1 hB G R
    go_wp2_with (go_at_call 87; refine (in_any _ _ _ _).mono ?_; rintro e w' ⟨rfl, rfl⟩)
    have k0 := (HR.out.set 0 (.int .i64 0)).cell 0
    have k1 := ((HR.out.set 0 (.int .i64 0)).set 1 (.int .i64 0)).cell 1
    simp at k0 k1
    refine bodyPost_ret (v := .tuple #[.agg #[.int .i64 0, .int .i64 0], .int .i64 (chk kp ki sh lo hi rate)]) (by simp [results, Try.results92, go_sem, k0, k1]) rfl ?_
    exact ⟨by rw [start_eq R0.out.1 R0.out.2], HB.out.trans (((Below.refl _ _).setCell (by simp) _).setCell (by simp) _)⟩

theorem rin_any (n lo hi : Int) (w : World) : Calls Try.prog 97 #[.int .i64 n, .int .i64 lo, .int .i64 hi] w fun e w' => e = .returned (.bool (inB n lo hi)) ∧ w = w' := by
  have HI : Hid (∀ b, b = inB n lo hi → Ending.returned (.bool b) = .returned (.bool (inB n lo hi))) := hid (fun b h => by rw [h])
  by_cases h1 : lo ≤ n
  · have hb : decide (n ≤ hi) = inB n lo hi := by simp [inB, h1]
    have HB := hid hb
    clear hb
    go_enter Try.func97, Try.ntmps97
    go_wp2
    go_ret
    exact ⟨HI.out _ HB.out, rfl⟩
  · have hb : false = inB n lo hi := by simp [inB, h1]
    have HB := hid hb
    clear hb
    go_enter Try.func97, Try.ntmps97
    go_wp2
    go_ret
    exact ⟨HI.out _ HB.out, rfl⟩

set_option maxRecDepth 100000 in
set_option maxHeartbeats 1000000 in
theorem rcheck_any (kp ki sh lo hi rate : Int) (w : World) :
    Calls Try.prog 72 #[.agg #[.int .i64 kp, .int .i64 ki, .int .i64 sh, .int .i64 lo, .int .i64 hi, .int .i64 rate]] w fun e w' => e = .returned (.int .i64 (chk kp ki sh lo hi rate)) ∧ Below w.heap.size w w' := by
  have fin1 : ∀ x, x = chk kp ki sh lo hi rate → ∀ w', Below w.heap.size w w' → Ending.returned (.int .i64 x) = .returned (.int .i64 (chk kp ki sh lo hi rate)) ∧ Below w.heap.size w w' := fun x h w' hb => ⟨by rw [h], hb⟩
  have F := hid fin1
  clear fin1
  cases h1 : inB kp 0 65536
  · have R : Hid (1 = chk kp ki sh lo hi rate) := hid (by simp [chk, h1])
    go_enter Try.func72, Try.ntmps72
    go_wp2_with (go_at_call 97; refine (rin_any _ _ _ _).mono ?_; rintro e w' ⟨rfl, rfl⟩)
    go_ret
    exact F.out _ R.out _ ((Below.refl _ _).alloc (Nat.le_refl _) _)
  cases h2 : inB ki 0 65536
  · have R : Hid (1 = chk kp ki sh lo hi rate) := hid (by simp [chk, h1, h2])
    go_enter Try.func72, Try.ntmps72
    go_wp2_with (go_at_call 97; refine (rin_any _ _ _ _).mono ?_; rintro e w' ⟨rfl, rfl⟩)
    go_ret
    exact F.out _ R.out _ ((Below.refl _ _).alloc (Nat.le_refl _) _)
  cases h3 : inB sh 0 20
  · have R : Hid (1 = chk kp ki sh lo hi rate) := hid (by simp [chk, h1, h2, h3])
    go_enter Try.func72, Try.ntmps72
    go_wp2_with (go_at_call 97; refine (rin_any _ _ _ _).mono ?_; rintro e w' ⟨rfl, rfl⟩)
    go_ret
    exact F.out _ R.out _ ((Below.refl _ _).alloc (Nat.le_refl _) _)
  cases h4 : inB lo (-16777216) 16777216
  · have R : Hid (1 = chk kp ki sh lo hi rate) := hid (by simp [chk, h1, h2, h3, h4])
    go_enter Try.func72, Try.ntmps72
    go_wp2_with (go_at_call 97; refine (rin_any _ _ _ _).mono ?_; rintro e w' ⟨rfl, rfl⟩)
    go_ret
    exact F.out _ R.out _ ((Below.refl _ _).alloc (Nat.le_refl _) _)
  cases h5 : inB hi (-16777216) 16777216
  · have R : Hid (1 = chk kp ki sh lo hi rate) := hid (by simp [chk, h1, h2, h3, h4, h5])
    go_enter Try.func72, Try.ntmps72
    go_wp2_with (go_at_call 97; refine (rin_any _ _ _ _).mono ?_; rintro e w' ⟨rfl, rfl⟩)
    go_ret
    exact F.out _ R.out _ ((Below.refl _ _).alloc (Nat.le_refl _) _)
  cases h6 : inB rate 1 16777216
  · have R : Hid (1 = chk kp ki sh lo hi rate) := hid (by simp [chk, h1, h2, h3, h4, h5, h6])
    go_enter Try.func72, Try.ntmps72
    go_wp2_with (go_at_call 97; refine (rin_any _ _ _ _).mono ?_; rintro e w' ⟨rfl, rfl⟩)
    go_ret
    exact F.out _ R.out _ ((Below.refl _ _).alloc (Nat.le_refl _) _)
  by_cases h7 : hi < lo
  · have R : Hid (9 = chk kp ki sh lo hi rate) := hid (by simp [chk, h1, h2, h3, h4, h5, h6, h7])
    go_enter Try.func72, Try.ntmps72
    go_wp2_with (go_at_call 97; refine (rin_any _ _ _ _).mono ?_; rintro e w' ⟨rfl, rfl⟩)
    go_ret
    exact F.out _ R.out _ ((Below.refl _ _).alloc (Nat.le_refl _) _)
  · have R : Hid (0 = chk kp ki sh lo hi rate) := hid (by simp [chk, h1, h2, h3, h4, h5, h6, h7])
    go_enter Try.func72, Try.ntmps72
    go_wp2_with (go_at_call 97; refine (rin_any _ _ _ _).mono ?_; rintro e w' ⟨rfl, rfl⟩)
    go_ret
    exact F.out _ R.out _ ((Below.refl _ _).alloc (Nat.le_refl _) _)

set_option maxRecDepth 100000 in
set_option maxHeartbeats 1000000 in
theorem rstart_any (kp ki sh lo hi rate out : Int) (w : World) :
    Calls Try.prog 81 #[.agg #[.int .i64 kp, .int .i64 ki, .int .i64 sh, .int .i64 lo, .int .i64 hi, .int .i64 rate], .int .i64 out] w fun e w' => e = .returned (startRes kp ki sh lo hi rate out) ∧ Below w.heap.size w w' := by
  by_cases hc : chk kp ki sh lo hi rate = 0
  · cases h1 : inB out lo hi
    · have R0 : Hid ((0 = if startErr kp ki sh lo hi rate out = 0 then out else 0) ∧ 1 = startErr kp ki sh lo hi rate out) := hid (by simp [startErr, hc, h1])
      go_enter Try.func81, Try.ntmps81
      go_wp2_with fail
      refine (rcheck_any _ _ _ _ _ _ _).mono ?_
      rintro e w1 ⟨rfl, hb1⟩
      have G : Blk w1 w.heap.size 23 #[.int .i64 kp, .int .i64 ki, .int .i64 sh, .int .i64 lo, .int .i64 hi, .int .i64 rate] := Blk.below ((Blk.new w _ _).alloc _) hb1 (by simp; omega)
      have R : Blk w1 (w.heap.size + 1) 127 #[.int .i64 0, .int .i64 0] := Blk.below (by simpa using Blk.new (w.alloc _) 127 #[.int .i64 0, .int .i64 0]) hb1 (by simp)
      have hB : Below w.heap.size w w1 := (((Below.refl _ _).alloc (Nat.le_refl _) _).alloc (by simp) _).trans (hb1.mono (by simp; omega))
      have g0 := G.cell
      have g2 := R.cell
      have g3 := R.frozen
      have HB := hid hB
      have HR := hid R
      clear hb1 hB G R
      go_wp2_with (go_at_call 97; refine (rin_any _ _ _ _).mono ?_; rintro e w' ⟨rfl, rfl⟩)
      have k0 := (HR.out.set 0 (.int .i64 0)).cell 0
      have k1 := ((HR.out.set 0 (.int .i64 0)).set 1 (.int .i64 0)).cell 1
      simp at k0 k1
      refine bodyPost_ret (v := .tuple #[.agg #[.int .i64 0, .int .i64 0], .int .i64 1]) (by simp [results, Try.results81, go_sem, k0, k1]) rfl ?_
      exact ⟨by rw [start_eq R0.out.1 R0.out.2], HB.out.trans (((Below.refl _ _).setCell (by simp) _).setCell (by simp) _)⟩
    · have R0 : Hid ((out = if startErr kp ki sh lo hi rate out = 0 then out else 0) ∧ 0 = startErr kp ki sh lo hi rate out) := hid (by simp [startErr, hc, h1])
      go_enter Try.func81, Try.ntmps81
      go_wp2_with fail
      refine (rcheck_any _ _ _ _ _ _ _).mono ?_
      rintro e w1 ⟨rfl, hb1⟩
      have G : Blk w1 w.heap.size 23 #[.int .i64 kp, .int .i64 ki, .int .i64 sh, .int .i64 lo, .int .i64 hi, .int .i64 rate] := Blk.below ((Blk.new w _ _).alloc _) hb1 (by simp; omega)
      have R : Blk w1 (w.heap.size + 1) 127 #[.int .i64 0, .int .i64 0] := Blk.below (by simpa using Blk.new (w.alloc _) 127 #[.int .i64 0, .int .i64 0]) hb1 (by simp)
      have hB : Below w.heap.size w w1 := (((Below.refl _ _).alloc (Nat.le_refl _) _).alloc (by simp) _).trans (hb1.mono (by simp; omega))
      have g0 := G.cell
      have g2 := R.cell
      have g3 := R.frozen
      have HB := hid hB
      have HR := hid R
      clear hb1 hB G R
      go_wp2_with (go_at_call 97; refine (rin_any _ _ _ _).mono ?_; rintro e w' ⟨rfl, rfl⟩)
      have k0 := (HR.out.set 0 (.int .i64 out)).cell 0
      have k1 := ((HR.out.set 0 (.int .i64 out)).set 1 (.int .i64 0)).cell 1
      simp at k0 k1
      refine bodyPost_ret (v := .tuple #[.agg #[.int .i64 out, .int .i64 0], .int .i64 0]) (by simp [results, Try.results81, go_sem, k0, k1]) rfl ?_
      exact ⟨by rw [start_eq R0.out.1 R0.out.2], HB.out.trans (((Below.refl _ _).setCell (by simp) _).setCell (by simp) _)⟩
  · have R0 : Hid ((0 = if startErr kp ki sh lo hi rate out = 0 then out else 0) ∧ chk kp ki sh lo hi rate = startErr kp ki sh lo hi rate out) := hid (by simp [startErr, hc])
    go_enter Try.func81, Try.ntmps81
    go_wp2_with fail
    refine (rcheck_any _ _ _ _ _ _ _).mono ?_
    rintro e w1 ⟨rfl, hb1⟩
    have G : Blk w1 w.heap.size 23 #[.int .i64 kp, .int .i64 ki, .int .i64 sh, .int .i64 lo, .int .i64 hi, .int .i64 rate] := Blk.below ((Blk.new w _ _).alloc _) hb1 (by simp; omega)
    have R : Blk w1 (w.heap.size + 1) 127 #[.int .i64 0, .int .i64 0] := Blk.below (by simpa using Blk.new (w.alloc _) 127 #[.int .i64 0, .int .i64 0]) hb1 (by simp)
    have hB : Below w.heap.size w w1 := (((Below.refl _ _).alloc (Nat.le_refl _) _).alloc (by simp) _).trans (hb1.mono (by simp; omega))
    have g0 := G.cell
    have g2 := R.cell
    have g3 := R.frozen
    have HB := hid hB
    have HR := hid R
    clear hb1 hB G R
    go_wp2_with (go_at_call 97; refine (rin_any _ _ _ _).mono ?_; rintro e w' ⟨rfl, rfl⟩)
    have k0 := (HR.out.set 0 (.int .i64 0)).cell 0
    have k1 := ((HR.out.set 0 (.int .i64 0)).set 1 (.int .i64 0)).cell 1
    simp at k0 k1
    refine bodyPost_ret (v := .tuple #[.agg #[.int .i64 0, .int .i64 0], .int .i64 (chk kp ki sh lo hi rate)]) (by simp [results, Try.results81, go_sem, k0, k1]) rfl ?_
    exact ⟨by rw [start_eq R0.out.1 R0.out.2], HB.out.trans (((Below.refl _ _).setCell (by simp) _).setCell (by simp) _)⟩

end Go.Proofs.Ytddphdkhaaolmaa.Ct
