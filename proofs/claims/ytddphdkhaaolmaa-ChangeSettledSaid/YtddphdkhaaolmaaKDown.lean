/- The reference's division, power, limit. -/
import Derived.Test.YtddphdkhaaolmaaKCtl
namespace Go.Proofs.Ytddphdkhaaolmaa.Ct
open Go.RowKit

theorem down_neg {a b : Int} (ha : a < 0) (hb : 1 ≤ b) : a / b = if a.tdiv b * b > a then a.tdiv b - 1 else a.tdiv b := by
  have h1 := Int.mul_ediv_add_emod a b
  have h2 := Int.emod_nonneg a (b := b) (by omega)
  have h3 := Int.emod_lt_of_pos a (b := b) (by omega)
  have h4 := Int.tdiv_eq_ediv (a := a) (b := b)
  have hs : b.sign = 1 := Int.sign_eq_one_of_pos (by omega)
  by_cases hd : b ∣ a
  · have e : a.tdiv b = a / b := by rw [h4]; simp [hd]
    have e2 := Int.ediv_mul_cancel hd
    rw [e, if_neg (by omega)]
  · have e : a.tdiv b = a / b + 1 := by rw [h4, if_neg (by simp [hd]; omega), hs]
    have hm : a % b ≠ 0 := fun h => hd (Int.dvd_of_emod_eq_zero h)
    have e2 : (a / b + 1) * b = b * (a / b) + b := by rw [Int.add_mul, Int.one_mul, Int.mul_comm]
    rw [e, e2, if_pos (by omega)]; omega
theorem down_pos {a b : Int} (ha : 0 ≤ a) : a.tdiv b = a / b := Int.tdiv_eq_ediv_of_nonneg ha
theorem quo_bd {a b : Int} : (a.tdiv b).natAbs ≤ a.natAbs := by
  rw [Int.natAbs_tdiv]; exact Nat.div_le_self _ _
theorem quo_mul {a b : Int} : (a.tdiv b * b).natAbs ≤ a.natAbs := by
  rw [Int.natAbs_mul, Int.natAbs_tdiv]; exact Nat.div_mul_le_self _ _

theorem down_any (a b : Int) (w : World) (hb : 1 ≤ b) (hb2 : b ≤ 1152921504606846976) (ha : -1152921504606846976 ≤ a) (ha2 : a ≤ 1152921504606846976) :
    Calls Try.prog 85 #[.int .i64 a, .int .i64 b] w fun e w' => e = .returned (.int .i64 (a / b)) ∧ w = w' := by
  have q1 := quo_bd (a := a) (b := b)
  have q2 := quo_mul (a := a) (b := b)
  rcases Int.lt_or_le a 0 with h | h
  · have e := down_neg h hb
    by_cases hg : a.tdiv b * b > a
    · rw [if_pos hg] at e
      have E := hid e
      clear e
      go_enter Try.func85, Try.ntmps85
      go_wp2
      go_ret
      exact ⟨ret_i E.out.symm, rfl⟩
    · rw [if_neg hg] at e
      have E := hid e
      clear e
      go_enter Try.func85, Try.ntmps85
      go_wp2
      go_ret
      exact ⟨ret_i E.out.symm, rfl⟩
  · have e := down_pos (b := b) h
    have e2 : a.tdiv b * b ≤ a := by rw [e]; exact Int.ediv_mul_le a (by omega)
    have E := hid e
    clear e
    go_enter Try.func85, Try.ntmps85
    go_wp2
    all_goals go_ret
    all_goals exact ⟨ret_i E.out, rfl⟩

theorem pow_bd {k : Nat} (h : k ≤ 20) : 1 ≤ (2 : Int) ^ k ∧ (2 : Int) ^ k ≤ 1048576 := by
  have e : (2 : Int) ^ k = ((2 ^ k : Nat) : Int) := by simp
  have h1 : 2 ^ k ≤ 2 ^ 20 := Nat.pow_le_pow_right (by decide) h
  have h2 : 0 < 2 ^ k := Nat.two_pow_pos k
  rw [e]; omega
theorem power_any (n : Int) (w : World) (h : 0 ≤ n ∧ n ≤ 20) : Calls Try.prog 100 #[.int .i64 n] w fun e w' => e = .returned (.int .i64 (2 ^ n.toNat)) ∧ w = w' := by
  obtain ⟨n, rfl⟩ := Int.eq_ofNat_of_zero_le h.1
  obtain ⟨h0, h1⟩ := h
  go_enter Try.func100, Try.ntmps100
  go_wp2
  go_loop [3, 4] (fun v3 v4 => ∃ k : Nat, k ≤ n ∧ v3 = .int .i64 (2 ^ k) ∧ v4 = .int .i64 k) (fun _ v4 => n - (intOf v4).toNat)
  case atStart => exact ⟨0, Nat.zero_le _, rfl, rfl⟩
  case round =>
    obtain ⟨k, hk, rfl, rfl⟩ := hrel
    have hp := pow_bd (k := k) (by omega)
    by_cases hlt : k < n
    · have e : (2 : Int) * 2 ^ k = 2 ^ (k + 1) := by rw [Int.pow_succ, Int.mul_comm]
      have E := hid e
      clear e
      go_wp2
      go_round
      case rel => exact ⟨k + 1, by omega, by rw [← E.out], by go_num⟩
      case measure => simp [intOf]; omega
    · have hkn : k = n := by omega
      subst hkn
      go_wp2
      go_ret
      exact ⟨rfl, rfl⟩

theorem rlimit_any (n lo hi : Int) (w : World) (h : lo ≤ hi) : Calls Try.prog 99 #[.int .i64 n, .int .i64 lo, .int .i64 hi] w fun e w' => e = .returned (.int .i64 (clampI lo n hi)) ∧ w = w' := by
  go_enter Try.func99, Try.ntmps99
  go_wp2
  all_goals go_ret
  all_goals exact ⟨ret_i (by unfold clampI; omega), rfl⟩
end Go.Proofs.Ytddphdkhaaolmaa.Ct
