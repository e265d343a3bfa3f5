/- Processes: checks, targets, division. -/
import Derived.Test.YtddphdkhaaolmaaProg
import Derived.Test.YtddphdkhaaolmaaApp
import Derived.Test.YtddphdkhaaolmaaSeq
import Derived.Deep.RegionHeld3
import Derived.Deep.QuietTactic
import Derived.BigQuiet
import Derived.Handy
namespace Go.Proofs.Ytddphdkhaaolmaa
open Go.RowKit

theorem ret_i {k : IntKind} {a b : Int} (h : a = b) : Ending.returned (.int k a) = .returned (.int k b) := by rw [h]
theorem ret_b {a b : Bool} (h : a = b) : Ending.returned (.bool a) = .returned (.bool b) := by rw [h]
/-- Is a number from -m to m? -/
def absB (n m : Int) : Bool := decide (n ≥ -m) && decide (n ≤ m)
theorem absB_true {n m : Int} (h : absB n m = true) : -m ≤ n ∧ n ≤ m := by simpa [absB] using h
theorem absB_mk {n m : Int} (h1 : -m ≤ n) (h2 : n ≤ m) : absB n m = true := by simp [absB]; omega
theorem absB_false {n m : Int} (h : absB n m = false) : n < -m ∨ m < n := by
  rcases Int.lt_or_le n (-m) with h1 | h1
  · exact .inl h1
  · rcases Int.lt_or_le m n with h2 | h2
    · exact .inr h2
    · exfalso
      rw [absB_mk h1 h2] at h; cases h

theorem down_neg {a b : Int} (ha : a < 0) (hb : 1 ≤ b) : a / b = if a.tdiv b * b > a then a.tdiv b - 1 else a.tdiv b := by
  have h1 := Int.mul_ediv_add_emod a b
  have h2 := Int.emod_nonneg a (b := b) (by omega)
  have h3 := Int.emod_lt_of_pos a (b := b) (by omega)
  have h4 := Int.tdiv_eq_ediv (a := a) (b := b)
  have hs : b.sign = 1 := Int.sign_eq_one_of_pos (by omega)
  by_cases hd : b ∣ a
  · have e : a.tdiv b = a / b := by rw [h4]; simp [hd]
    have e2 := Int.ediv_mul_cancel hd
    rw [e, if_neg (by omega)]
  · have e : a.tdiv b = a / b + 1 := by rw [h4, if_neg (by simp [hd]; omega), hs]
    have hm : a % b ≠ 0 := fun h => hd (Int.dvd_of_emod_eq_zero h)
    have e2 : (a / b + 1) * b = b * (a / b) + b := by rw [Int.add_mul, Int.one_mul, Int.mul_comm]
    rw [e, e2, if_pos (by omega)]; omega
theorem down_pos {a b : Int} (ha : 0 ≤ a) : a.tdiv b = a / b := Int.tdiv_eq_ediv_of_nonneg ha
theorem quo_bd {a b : Int} : (a.tdiv b).natAbs ≤ a.natAbs := by
  rw [Int.natAbs_tdiv]; exact Nat.div_le_self _ _
theorem quo_mul {a b : Int} : (a.tdiv b * b).natAbs ≤ a.natAbs := by
  rw [Int.natAbs_mul, Int.natAbs_tdiv]; exact Nat.div_mul_le_self _ _
theorem down_tmod {a b : Int} (hb : 1 ≤ b) : a / b = if a.tmod b < 0 then a.tdiv b - 1 else a.tdiv b := by
  have h1 := Int.mul_tdiv_add_tmod a b
  rcases Int.lt_or_le a 0 with h | h
  · have h2 := down_neg h hb
    rw [h2]
    have h3 : a.tdiv b * b = b * a.tdiv b := Int.mul_comm _ _
    by_cases hc : a.tdiv b * b > a
    · rw [if_pos hc, if_pos (by omega)]
    · rw [if_neg hc, if_neg (by omega)]
  · have h2 := down_pos (b := b) h
    have h4 := Int.tmod_nonneg b h
    rw [if_neg (by omega), h2]

theorem floor_any (a b : Int) (w : World) (hb : 1 ≤ b) (hb2 : b ≤ 1152921504606846976) (ha : -1152921504606846976 ≤ a) (ha2 : a ≤ 1152921504606846976) :
    Calls Try.prog 101 #[.int .i64 a, .int .i64 b] w fun e w' => e = .returned (.int .i64 (a / b)) ∧ w = w' := by
  have q1 := quo_bd (a := a) (b := b)
  have q2 := quo_mul (a := a) (b := b)
  rcases Int.lt_or_le a 0 with h | h
  · have e := down_neg h hb
    by_cases hg : a.tdiv b * b > a
    · rw [if_pos hg] at e
      have E := hid e
      clear e
      go_enter Try.func101, Try.ntmps101
      go_wp2
      go_ret
      exact ⟨ret_i E.out.symm, rfl⟩
    · rw [if_neg hg] at e
      have E := hid e
      clear e
      go_enter Try.func101, Try.ntmps101
      go_wp2
      go_ret
      exact ⟨ret_i E.out.symm, rfl⟩
  · have e := down_pos (b := b) h
    have e2 : a.tdiv b * b ≤ a := by rw [e]; exact Int.ediv_mul_le a (by omega)
    have E := hid e
    clear e
    go_enter Try.func101, Try.ntmps101
    go_wp2
    all_goals go_ret
    all_goals exact ⟨ret_i E.out, rfl⟩

theorem rdown_any (a b : Int) (w : World) (hb : 1 ≤ b) (hb2 : b ≤ 1152921504606846976) (ha : -1152921504606846976 ≤ a) (ha2 : a ≤ 1152921504606846976) :
    Calls Try.prog 98 #[.int .i64 a, .int .i64 b] w fun e w' => e = .returned (.int .i64 (a / b)) ∧ w = w' := by
  have q1 := quo_bd (a := a) (b := b)
  have e := down_tmod (a := a) hb
  by_cases hg : a.tmod b < 0
  · rw [if_pos hg] at e
    have E := hid e
    clear e
    go_enter Try.func98, Try.ntmps98
    go_wp2
    go_ret
    exact ⟨ret_i E.out.symm, rfl⟩
  · rw [if_neg hg] at e
    have E := hid e
    clear e
    go_enter Try.func98, Try.ntmps98
    go_wp2
    go_ret
    exact ⟨ret_i E.out.symm, rfl⟩

theorem within_any (n m : Int) (w : World) (hm : 0 ≤ m ∧ m ≤ 1152921504606846976) : Calls Try.prog 88 #[.int .i64 n, .int .i64 m] w fun e w' => e = .returned (.bool (absB n m)) ∧ w = w' := by
  have HI : Hid (∀ b, b = absB n m → Ending.returned (.bool b) = .returned (.bool (absB n m))) := hid (fun b h => ret_b h)
  by_cases h1 : -m ≤ n
  · have hb : decide (n ≤ m) = absB n m := by simp [absB, h1]
    have HB := hid hb
    clear hb
    go_enter Try.func88, Try.ntmps88
    go_wp2
    go_ret
    exact ⟨HI.out _ HB.out, rfl⟩
  · have hb : false = absB n m := by simp [absB, h1]
    have HB := hid hb
    clear hb
    go_enter Try.func88, Try.ntmps88
    go_wp2
    go_ret
    exact ⟨HI.out _ HB.out, rfl⟩

theorem rout_any (n : Int) (w : World) : Calls Try.prog 79 #[.int .i64 n] w fun e w' => e = .returned (.bool (absB n 16777216)) ∧ w = w' := by
  have HI : Hid (∀ b, b = absB n 16777216 → Ending.returned (.bool b) = .returned (.bool (absB n 16777216))) := hid (fun b h => ret_b h)
  by_cases h1 : -16777216 ≤ n
  · have hb : decide (n ≤ 16777216) = absB n 16777216 := by simp [absB, h1]
    have HB := hid hb
    clear hb
    go_enter Try.func79, Try.ntmps79
    go_wp2
    go_ret
    exact ⟨HI.out _ HB.out, rfl⟩
  · have hb : false = absB n 16777216 := by simp [absB, h1]
    have HB := hid hb
    clear hb
    go_enter Try.func79, Try.ntmps79
    go_wp2
    go_ret
    exact ⟨HI.out _ HB.out, rfl⟩

theorem rvalue_any (n : Int) (w : World) : Calls Try.prog 76 #[.int .i64 n] w fun e w' => e = .returned (.bool (absB n 268435456)) ∧ w = w' := by
  have HI : Hid (∀ b, b = absB n 268435456 → Ending.returned (.bool b) = .returned (.bool (absB n 268435456))) := hid (fun b h => ret_b h)
  by_cases h1 : -268435456 ≤ n
  · have hb : decide (n ≤ 268435456) = absB n 268435456 := by simp [absB, h1]
    have HB := hid hb
    clear hb
    go_enter Try.func76, Try.ntmps76
    go_wp2
    go_ret
    exact ⟨HI.out _ HB.out, rfl⟩
  · have hb : false = absB n 268435456 := by simp [absB, h1]
    have HB := hid hb
    clear hb
    go_enter Try.func76, Try.ntmps76
    go_wp2
    go_ret
    exact ⟨HI.out _ HB.out, rfl⟩

/-- The error of Check. -/
def chkP (ga la de : Int) : Int := if 1 ≤ ga ∧ ga ≤ 4096 ∧ 1 ≤ la ∧ la ≤ 256 ∧ 0 ≤ de ∧ de ≤ 32 then 0 else 1
theorem chkP_ok {ga la de : Int} (h : chkP ga la de = 0) : 1 ≤ ga ∧ ga ≤ 4096 ∧ 1 ≤ la ∧ la ≤ 256 ∧ 0 ≤ de ∧ de ≤ 32 := by
  unfold chkP at h
  split at h
  · assumption
  · cases h

theorem check_any (ga la de : Int) (w : World) : Calls Try.prog 64 #[.agg #[.int .i64 ga, .int .i64 la, .int .i64 de]] w fun e w' => e = .returned (.int .i64 (chkP ga la de)) ∧ Below w.heap.size w w' := by
  have HI : Hid (∀ x, x = chkP ga la de → Ending.returned (.int .i64 x) = .returned (.int .i64 (chkP ga la de))) := hid (fun b h => ret_i h)
  by_cases hc : 1 ≤ ga ∧ ga ≤ 4096 ∧ 1 ≤ la ∧ la ≤ 256 ∧ 0 ≤ de ∧ de ≤ 32
  · have R : Hid (0 = chkP ga la de) := hid (by unfold chkP; rw [if_pos hc])
    obtain ⟨c1, c2, c3, c4, c5, c6⟩ := hc
    go_enter Try.func64, Try.ntmps64
    go_wp2
    go_ret
    exact ⟨HI.out _ R.out, (Below.refl _ _).alloc (Nat.le_refl _) _⟩
  · have R : Hid (1 = chkP ga la de) := hid (by unfold chkP; rw [if_neg hc])
    go_enter Try.func64, Try.ntmps64
    go_wp2
    all_goals first | omega | skip
    all_goals go_ret
    all_goals exact ⟨HI.out _ R.out, (Below.refl _ _).alloc (Nat.le_refl _) _⟩

theorem rcheck_any (ga la de : Int) (w : World) : Calls Try.prog 73 #[.agg #[.int .i64 ga, .int .i64 la, .int .i64 de]] w fun e w' => e = .returned (.int .i64 (chkP ga la de)) ∧ Below w.heap.size w w' := by
  have HI : Hid (∀ x, x = chkP ga la de → Ending.returned (.int .i64 x) = .returned (.int .i64 (chkP ga la de))) := hid (fun b h => ret_i h)
  by_cases hc : 1 ≤ ga ∧ ga ≤ 4096 ∧ 1 ≤ la ∧ la ≤ 256 ∧ 0 ≤ de ∧ de ≤ 32
  · have R : Hid (0 = chkP ga la de) := hid (by unfold chkP; rw [if_pos hc])
    obtain ⟨c1, c2, c3, c4, c5, c6⟩ := hc
    go_enter Try.func73, Try.ntmps73
    go_wp2
    go_ret
    exact ⟨HI.out _ R.out, (Below.refl _ _).alloc (Nat.le_refl _) _⟩
  · have R : Hid (1 = chkP ga la de) := hid (by unfold chkP; rw [if_neg hc])
    go_enter Try.func73, Try.ntmps73
    go_wp2
    all_goals first | omega | skip
    all_goals go_ret
    all_goals exact ⟨HI.out _ R.out, (Below.refl _ _).alloc (Nat.le_refl _) _⟩

/-- The target of an output. -/
def tgt (ga n : Int) : Int := ga * n / 256
theorem mul_bd {a b A B : Int} (h1 : 0 ≤ a) (h2 : a ≤ A) (h3 : -B ≤ b) (h4 : b ≤ B) : -(A * B) ≤ a * b ∧ a * b ≤ A * B := by
  have hB : 0 ≤ B := by omega
  have e1 : a * b ≤ a * B := Int.mul_le_mul_of_nonneg_left h4 h1
  have e2 : a * B ≤ A * B := Int.mul_le_mul_of_nonneg_right h2 hB
  have e3 : a * -B ≤ a * b := Int.mul_le_mul_of_nonneg_left h3 h1
  rw [Int.mul_neg] at e3
  omega

theorem target_any (ga la de n : Int) (w : World) (h1 : 1 ≤ ga) (h2 : ga ≤ 4096) (h3 : -67108864 ≤ n) (h4 : n ≤ 67108864) : Calls Try.prog 89 #[.agg #[.int .i64 ga, .int .i64 la, .int .i64 de], .int .i64 n] w fun e w' => e = .returned (.int .i64 (tgt ga n)) ∧ Below w.heap.size w w' := by
  have m := mul_bd (a := ga) (b := n) (A := 4096) (B := 67108864) (by omega) (by omega) (by omega) (by omega)
  go_enter Try.func89, Try.ntmps89
  go_wp2_with fail
  refine (floor_any _ _ _ ?_ ?_ ?_ ?_).mono ?_
  omega
  omega
  omega
  omega
  rintro e w1 ⟨rfl, rfl⟩
  go_wp2
  go_ret
  exact ⟨ret_i rfl, (Below.refl _ _).alloc (Nat.le_refl _) _⟩

theorem rtarget_any (ga la de n : Int) (w : World) (h1 : 1 ≤ ga) (h2 : ga ≤ 4096) (h3 : -67108864 ≤ n) (h4 : n ≤ 67108864) : Calls Try.prog 78 #[.agg #[.int .i64 ga, .int .i64 la, .int .i64 de], .int .i64 n] w fun e w' => e = .returned (.int .i64 (tgt ga n)) ∧ Below w.heap.size w w' := by
  have m := mul_bd (a := ga) (b := n) (A := 4096) (B := 67108864) (by omega) (by omega) (by omega) (by omega)
  go_enter Try.func78, Try.ntmps78
  go_wp2_with fail
  refine (rdown_any _ _ _ ?_ ?_ ?_ ?_).mono ?_
  omega
  omega
  omega
  omega
  rintro e w1 ⟨rfl, rfl⟩
  go_wp2
  go_ret
  exact ⟨ret_i rfl, (Below.refl _ _).alloc (Nat.le_refl _) _⟩
end Go.Proofs.Ytddphdkhaaolmaa
