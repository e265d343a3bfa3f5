/- Chapter 32: MulDiv to the nearest of thousand millions; the reference's. -/
import Derived.Test.YtddphdkhaaolmaaGKit
import Derived.Laws.MathBits
import Derived.Laws.Bits64b
namespace Go.Proofs.Ytddphdkhaaolmaa
open Go.RowKit

theorem or_hi (h l m : Int) (k : Nat) (hm : m = 2 ^ k) (h0 : 0 ≤ h) (hl : 0 ≤ l ∧ l < m) (hb : h * m + l < 18446744073709551616) : bits BinOp.or IntKind.u64 (h * m) l = h * m + l := by
  obtain ⟨H, rfl⟩ := Int.eq_ofNat_of_zero_le h0
  obtain ⟨L, rfl⟩ := Int.eq_ofNat_of_zero_le hl.1
  have hm2 : m = ((2 ^ k : Nat) : Int) := by rw [hm]; simp
  subst hm2
  have e : ((H : Int) * ((2 ^ k : Nat) : Int)) = ((H * 2 ^ k : Nat) : Int) := by simp
  have hb2 : H * 2 ^ k + L < 18446744073709551616 := by rw [e] at hb; omega
  have hL : L < 2 ^ k := by have := hl.2; omega
  rw [e]
  have := bits_or_u64_nat (H * 2 ^ k) L (by omega) (by omega)
  rw [this, ← Nat.shiftLeft_eq, ← Nat.shiftLeft_add_eq_or_of_lt hL, Nat.shiftLeft_eq]
  simp
set_option linter.unusedSimpArgs false in
set_option maxRecDepth 100000 in
set_option maxHeartbeats 8000000 in
theorem nin_any (a : Option Addr) (c n : Nat) (l : List Int) (w : World) (r : Rds Nn w 1 a n (ints l)) (hn : n = l.length) (hl : n ≤ 1000000) (hb : ∀ x ∈ l, -1125899906842624 ≤ x ∧ x ≤ 1125899906842624) : Calls Try.prog 58 #[.slice a n c] w fun e w' => e = .returned (.bool true) ∧ Below w.heap.size w w' := by
  have R1 := hid r
  have HB := hid hb
  have HN := hid hn
  clear r hb hn
  go_enter Try.func58, Try.ntmps58
  go_wp2
  go_loopw [7] (fun i wr => ∃ k : Nat, k ≤ n ∧ i = .int .i64 k ∧ Below w.heap.size w wr) (fun i _ => n - (intOf i).toNat)
  case atStart => exact ⟨0, Nat.zero_le _, rfl, Below.refl _ _⟩
  case round =>
    obtain ⟨k, hk, rfl, hbel⟩ := hrel
    have BB := hid hbel
    clear hbel
    by_cases hlt : k < n
    · obtain ⟨p1, o1, y, rfl, _, hy, hc⟩ := num_at R1.out hlt
      have e1 := hc _ BB.out
      obtain ⟨y1, y2⟩ := HB.out y (List.mem_of_getElem? hy)
      have wk1 : IntKind.i64.wrap ((k : Int) + 1) = k + 1 := IntWalk.i64_in _ (by omega)
      have y3 : ¬ (y < -1125899906842624) := by omega
      have y4 : ¬ (1125899906842624 < y) := by omega
      clear hc hy
      go_wp2
      go_roundw
      case rel => exact ⟨k + 1, by omega, by go_num, BB.out⟩
      case measure => simp [intOf]; omega
    · obtain rfl : n = k := by omega
      go_wp2
      go_ret
      exact ⟨rfl, BB.out⟩
set_option linter.unusedSimpArgs false in
set_option maxRecDepth 100000 in
set_option maxHeartbeats 8000000 in
theorem nsize_any (x : Int) (w : World) (h : 0 ≤ x ∧ x < 9223372036854775808) : Calls Try.prog 60 #[.int .i64 x] w fun e w' => e = .returned (.int .u64 x) ∧ Below w.heap.size w w' := by
  have h1 : ¬ (x < 0) := by omega
  have h2 : IntKind.u64.wrap x = x := by rw [IntKind.wrap_u64]; omega
  go_enter Try.func60, Try.ntmps60
  go_wp2
  go_ret
  exact ⟨rfl, Below.refl _ _⟩
set_option linter.unusedSimpArgs false in
set_option maxRecDepth 100000 in
set_option maxHeartbeats 8000000 in
theorem nprod_any (a b : Int) (w : World) (ha : 0 ≤ a ∧ a < 1125899906842624) (hb : 0 ≤ b ∧ b < 4294967296) : Calls Try.prog 59 #[.int .u64 a, .int .u64 b] w fun e w' => ∃ hi lo, e = .returned (.agg #[.int .u64 hi, .int .u64 lo]) ∧ (0 ≤ hi ∧ hi < 18446744073709551616) ∧ (0 ≤ lo ∧ lo < 18446744073709551616) ∧ hi * 18446744073709551616 + lo = a * b ∧ Below w.heap.size w w' := by
  have Z0 := hid (Blk.at_new w (b := w.heap.size) (t := 105) (cs := #[.int .u64 0, .int .u64 0]) rfl)
  have B0 := hid ((Below.refl w.heap.size w).alloc (Nat.le_refl _) (.cells #[.int .u64 0, .int .u64 0] 105))
  have q1 : bits BinOp.and IntKind.u64 a 4294967295 = a % 4294967296 := and_low32 a (by omega) (by omega)
  have q2 : bits BinOp.and IntKind.u64 b 4294967295 = b := by rw [and_low32 b (by omega) (by omega)]; omega
  have q3 : b / 4294967296 = 0 := by omega
  obtain ⟨a0, ha0⟩ : ∃ a0, a % 4294967296 = a0 := ⟨_, rfl⟩
  obtain ⟨a1, ha1⟩ : ∃ a1, a / 4294967296 = a1 := ⟨_, rfl⟩
  have k0 : 0 ≤ a0 ∧ a0 ≤ 4294967295 := by omega
  have k1 : 0 ≤ a1 ∧ a1 ≤ 262144 := by omega
  obtain ⟨p0, hp0⟩ : ∃ p0, a0 * b = p0 := ⟨_, rfl⟩
  obtain ⟨p1, hp1⟩ : ∃ p1, a1 * b = p1 := ⟨_, rfl⟩
  have m0 := Go.prod_bound a0 b k0.1 k0.2 hb.1 (by omega)
  have m1 := Go.prod_bound a1 b k1.1 (by omega) hb.1 (by omega)
  have HAB : Hid (a * b = p1 * 4294967296 + p0) := hid (by
    have e : a = a1 * 4294967296 + a0 := by omega
    rw [e, Int.add_mul, ← hp0, ← hp1, Int.mul_right_comm])
  rw [hp0] at m0
  rw [hp1] at m1
  have w0 : IntKind.u64.wrap p0 = p0 := by rw [IntKind.wrap_u64]; omega
  have w1 : IntKind.u64.wrap p1 = p1 := by rw [IntKind.wrap_u64]; omega
  have m2 : p1 ≤ 1125899906842624 := by
    have h := Int.mul_le_mul k1.2 (show b ≤ 4294967295 by omega) hb.1 (by omega)
    omega
  obtain ⟨ph, hph⟩ : ∃ ph, p0 / 4294967296 = ph := ⟨_, rfl⟩
  obtain ⟨pl, hpl⟩ : ∃ pl, p0 % 4294967296 = pl := ⟨_, rfl⟩
  obtain ⟨md, hmd⟩ : ∃ md, p1 + ph = md := ⟨_, rfl⟩
  obtain ⟨mh, hmh⟩ : ∃ mh, md / 4294967296 = mh := ⟨_, rfl⟩
  obtain ⟨ml, hml⟩ : ∃ ml, md % 4294967296 = ml := ⟨_, rfl⟩
  have w2 : IntKind.u64.wrap md = md := by rw [IntKind.wrap_u64]; omega
  have q4 : bits BinOp.and IntKind.u64 md 4294967295 = ml := by rw [and_low32 md (by omega) (by omega)]; exact hml
  have q5 : bits BinOp.and IntKind.u64 p0 4294967295 = pl := by rw [and_low32 p0 (by omega) (by omega)]; exact hpl
  have w3 : IntKind.u64.wrap ml = ml := by rw [IntKind.wrap_u64]; omega
  have w4 : IntKind.u64.wrap mh = mh := by rw [IntKind.wrap_u64]; omega
  have d1 : ml / 4294967296 = 0 := by omega
  have q6 : bits BinOp.or IntKind.u64 (ml * 4294967296) pl = ml * 4294967296 + pl := or_hi ml pl 4294967296 32 (by decide) (by omega) (by omega) (by omega)
  have FIN : Hid (mh * 18446744073709551616 + (ml * 4294967296 + pl) = p1 * 4294967296 + p0) := hid (by omega)
  have RNG : Hid ((0 ≤ mh ∧ mh < 18446744073709551616) ∧ 0 ≤ ml * 4294967296 + pl ∧ ml * 4294967296 + pl < 18446744073709551616) := hid (by omega)
  go_enter Try.func59, Try.ntmps59
  go_upto_region 5 with fail
  go_wp2_with fail
  refine bodyPost_ret (v := .agg #[.int .u64 mh, .int .u64 (ml * 4294967296 + pl)]) (results_cell rfl rfl (Blk.at_new w rfl) Try.underlying105 rfl (by kernel_rfl)) rfl ?_
  exact ⟨_, _, rfl, RNG.out.1, RNG.out.2, by rw [FIN.out, HAB.out], (Below.refl _ _).alloc (Nat.le_refl _) _⟩
theorem and_one_i64 (T : Int) : bits BinOp.and IntKind.i64 T 1 = T % 2 := by
  have h127 : (BitVec.ofInt 64 1).toNat = 2 ^ 1 - 1 := by decide
  have key : (BitVec.ofInt 64 T &&& BitVec.ofInt 64 1).toNat = (T % ((2 ^ 64 : Nat) : Int)).toNat % 2 ^ 1 := by
    rw [BitVec.toNat_and, BitVec.toNat_ofInt, h127, Nat.and_two_pow_sub_one_eq_mod]
  show IntKind.i64.wrap ((BitVec.ofInt 64 T &&& BitVec.ofInt 64 1).toNat : Nat) = T % 2
  rw [key, IntKind.wrap_i64]
  omega
theorem top_step {N : Int} {m : Nat} : N / 2 ^ (m + 1) = (N / 2 ^ m) / 2 := by
  rw [Int.pow_succ, Int.ediv_ediv_of_nonneg (Int.le_of_lt (Int.pow_pos (by decide)))]
theorem div_at {T c q r : Int} (h : T = q * c + r) (h0 : 0 ≤ r) (h1 : r < c) : T / c = q ∧ T % c = r := by
  subst h
  have hc : 0 < c := by omega
  refine ⟨?_, ?_⟩
  · rw [Int.add_comm, Int.add_mul_ediv_right _ _ (by omega), Int.ediv_eq_zero_of_lt h0 h1]
    omega
  · rw [Int.add_comm, Int.add_mul_emod_self_right, Int.emod_eq_of_lt h0 h1]
set_option linter.unusedVariables false in
theorem word_bit {N hi lo T bt : Int} {k : Nat} (hN : hi * 18446744073709551616 + lo = N) (hh : 0 ≤ hi ∧ hi < 18446744073709551616) (hl : 0 ≤ lo ∧ lo < 18446744073709551616) (hT : N / 2 ^ (127 - k) = T) (hb : T % 2 = bt) (hk : k < 128) : (k < 64 → (hi / 2 ^ (63 - k)) % 2 = bt) ∧ (64 ≤ k → (lo / 2 ^ (127 - k)) % 2 = bt) := by
  refine ⟨fun h => ?_, fun h => ?_⟩
  · have e : (2 : Int) ^ (127 - k) = 18446744073709551616 * 2 ^ (63 - k) := by
      rw [show 127 - k = 64 + (63 - k) by omega, Int.pow_add]
      rfl
    rw [← hb, ← hT, e, ← Int.ediv_ediv_of_nonneg (by decide)]
    have : N / 18446744073709551616 = hi := by omega
    rw [this]
  · have e : hi * 18446744073709551616 = (hi * 2 ^ (k - 64) * 2) * 2 ^ (127 - k) := by
      rw [Int.mul_assoc, Int.mul_assoc]
      congr 1
      rw [← Int.mul_assoc, ← Int.pow_succ, ← Int.pow_add, show k - 64 + 1 + (127 - k) = 64 by omega]
      rfl
    rw [← hb, ← hT, ← hN, e, Int.add_comm, Int.add_mul_ediv_right _ _ (Int.ne_of_gt (Int.pow_pos (by decide))), Int.add_mul_emod_self_right]
set_option linter.unusedSimpArgs false in
set_option maxRecDepth 100000 in
set_option maxHeartbeats 8000000 in
theorem ndiv_any (hi lo c : Int) (w : World) (hh : 0 ≤ hi ∧ hi < 18446744073709551616) (hl : 0 ≤ lo ∧ lo < 18446744073709551616) (hc : 1 ≤ c ∧ c ≤ 1073741824) (hq : (hi * 18446744073709551616 + lo) / c < 2305843009213693952) : Calls Try.prog 61 #[.agg #[.int .u64 hi, .int .u64 lo], .int .u64 c] w fun e w' => e = .returned (.tuple #[.int .u64 ((hi * 18446744073709551616 + lo) / c), .int .u64 ((hi * 18446744073709551616 + lo) % c), .bool true]) ∧ Below w.heap.size w w' := by
  have Z0 := hid (Blk.at_new w (b := w.heap.size) (t := 105) (cs := #[.int .u64 hi, .int .u64 lo]) rfl)
  have B0 := hid ((Below.refl w.heap.size w).alloc (Nat.le_refl _) (.cells #[.int .u64 hi, .int .u64 lo] 105))
  obtain ⟨N, hN⟩ : ∃ N, hi * 18446744073709551616 + lo = N := ⟨_, rfl⟩
  rw [hN] at hq ⊢
  have HNN := hid hN
  have HQ := hid hq
  have N0 : Hid (0 ≤ N ∧ N < 340282366920938463463374607431768211456) := hid (by omega)
  clear hN hq
  go_enter Try.func61, Try.ntmps61
  go_wp2
  go_loopw [7, 8, 12] (fun uq ur ui wr => ∃ k : Nat, k ≤ 128 ∧ ui = .int .i64 k ∧ uq = .int .u64 (N / 2 ^ (128 - k) / c) ∧ ur = .int .u64 (N / 2 ^ (128 - k) % c) ∧ Below (w.alloc (.cells #[.int .u64 hi, .int .u64 lo] 105)).heap.size (w.alloc (.cells #[.int .u64 hi, .int .u64 lo] 105)) wr) (fun _ _ ui _ => 128 - (intOf ui).toNat)
  case atStart => exact ⟨0, Nat.zero_le _, rfl, by rw [show N / 2 ^ (128 - 0) = 0 from Int.ediv_eq_zero_of_lt N0.out.1 (by have := N0.out.2; omega)]; simp, by rw [show N / 2 ^ (128 - 0) = 0 from Int.ediv_eq_zero_of_lt N0.out.1 (by have := N0.out.2; omega)]; simp, Below.refl _ _⟩
  case round =>
    obtain ⟨k, hk, rfl, rfl, rfl, hbel⟩ := hrel
    have BB := hid hbel
    have cw := (Z0.out.below hbel Z0.out.lt).cell
    clear hbel
    by_cases hlt : k < 128
    · obtain ⟨T, hT⟩ : ∃ T, N / 2 ^ (127 - k) = T := ⟨_, rfl⟩
      have hT2 : N / 2 ^ (128 - k) = T / 2 := by rw [show 128 - k = (127 - k) + 1 by omega, top_step, hT]
      have hT0 : 0 ≤ T := by rw [← hT]; exact Int.ediv_nonneg N0.out.1 (Int.le_of_lt (Int.pow_pos (by decide)))
      obtain ⟨q, hq⟩ : ∃ q, T / 2 / c = q := ⟨_, rfl⟩
      obtain ⟨r, hr⟩ : ∃ r, T / 2 % c = r := ⟨_, rfl⟩
      obtain ⟨bt, hbt⟩ : ∃ bt, T % 2 = bt := ⟨_, rfl⟩
      have b01 : 0 ≤ bt ∧ bt ≤ 1 := by omega
      have hr2 : 0 ≤ r ∧ r < c := by rw [← hr]; exact ⟨Int.emod_nonneg _ (by omega), Int.emod_lt_of_pos _ (by omega)⟩
      have hq0 : 0 ≤ q := by rw [← hq]; exact Int.ediv_nonneg (by omega) (by omega)
      have hqT : T / 2 = q * c + r := by rw [← hq, ← hr, Int.mul_comm]; exact (Int.mul_ediv_add_emod (T / 2) c).symm
      have hTc : T = (q * 2) * c + (r * 2 + bt) := by
        have h1 : T = 2 * (T / 2) + bt := by omega
        rw [h1, hqT, Int.mul_add, Int.mul_right_comm, Int.mul_comm 2]
        omega
      have hTN : T / c ≤ N / c := Int.ediv_le_ediv (by omega) (by rw [← hT]; exact Int.ediv_le_self _ N0.out.1)
      have hq61 : q < 2305843009213693952 := by
        have h1 : q ≤ T / c := by rw [← hq]; exact Int.ediv_le_ediv (by omega) (by omega)
        have := HQ.out
        omega
      rw [hT2, hq, hr]
      have WB : Hid ((k < 64 → (hi / 2 ^ (63 - k)) % 2 = bt) ∧ (64 ≤ k → (lo / 2 ^ (127 - k)) % 2 = bt)) := hid (word_bit HNN.out hh hl hT hbt hlt)
      have d61 : q / 2305843009213693952 = 0 := Int.ediv_eq_zero_of_lt hq0 hq61
      have x1 : IntKind.u64.wrap (q * 2) = q * 2 := by rw [IntKind.wrap_u64]; omega
      have x2 : IntKind.u64.wrap (r * 2) = r * 2 := by rw [IntKind.wrap_u64]; omega
      have x3 : bits BinOp.or IntKind.u64 (q * 2) 1 = q * 2 + 1 := or_hi q 1 2 1 (by decide) hq0 (by omega) (by omega)
      have x4 : bits BinOp.or IntKind.u64 (r * 2) bt = r * 2 + bt := or_hi r bt 2 1 (by decide) hr2.1 (by omega) (by omega)
      have x5 : IntKind.u64.wrap (r * 2 + bt - c) = IntKind.u64.wrap (r * 2 + bt - c) := rfl
      have wk1 : IntKind.i64.wrap ((k : Int) + 1) = k + 1 := IntWalk.i64_in _ (by omega)
      have RES : Hid ((r * 2 + bt < c → T / c = q * 2 ∧ T % c = r * 2 + bt) ∧ (c ≤ r * 2 + bt → T / c = q * 2 + 1 ∧ T % c = r * 2 + bt - c)) := hid ⟨fun h => div_at hTc (by omega) h, fun h => div_at (q := q * 2 + 1) (r := r * 2 + bt - c) (by rw [hTc, Int.add_mul]; omega) (by omega) (by omega)⟩
      have HT := hid hT
      clear hT hT2 hTN hqT hTc hq hr hbt x5
      by_cases h64 : k < 64
      · have WB1 := WB.out.1 h64
        have k1 : ((k : Int) / 64 = 0) := by omega
        have k2 : ((k : Int) % 64 = k) := by omega
        have hw : 0 ≤ hi / 2 ^ (63 - k) ∧ hi / 2 ^ (63 - k) ≤ 18446744073709551615 := ⟨Int.ediv_nonneg hh.1 (Int.le_of_lt (Int.pow_pos (by decide))), by have := Int.ediv_le_self (2 ^ (63 - k)) hh.1; omega⟩
        have x6 : bits BinOp.and IntKind.u64 (hi / 2 ^ (63 - k)) 1 = bt := by rw [and_one_u64 _ hw.1 hw.2]; exact WB1
        clear WB1 hw
        by_cases hge : r * 2 + bt < c
        · have RS := hid (RES.out.1 hge)
          go_wp2
          go_roundw
          case rel => exact ⟨k + 1, by omega, by go_num, by rw [show 128 - (k + 1) = 127 - k by omega, HT.out, RS.out.1], by rw [show 128 - (k + 1) = 127 - k by omega, HT.out, RS.out.2], BB.out⟩
          case measure => simp [intOf]; omega
        · have RS := hid (RES.out.2 (by omega))
          have x7 : IntKind.u64.wrap (r * 2 + bt - c) = r * 2 + bt - c := by rw [IntKind.wrap_u64]; omega
          go_wp2
          go_roundw
          case rel => exact ⟨k + 1, by omega, by go_num, by rw [show 128 - (k + 1) = 127 - k by omega, HT.out, RS.out.1], by rw [show 128 - (k + 1) = 127 - k by omega, HT.out, RS.out.2], BB.out⟩
          case measure => simp [intOf]; omega
      · obtain ⟨j, rfl⟩ : ∃ j, k = j + 64 := ⟨k - 64, by omega⟩
        have WB1 := WB.out.2 (by omega)
        have k1 : (((j + 64 : Nat) : Int) / 64 = 1) := by omega
        have k2 : (((j + 64 : Nat) : Int) % 64 = j) := by omega
        have k3 : ((j : Int) + 64) / 64 = 1 := by omega
        have k4 : ((j : Int) + 64) % 64 = j := by omega
        rw [show 127 - (j + 64) = 63 - j by omega] at WB1
        have hw : 0 ≤ lo / 2 ^ (63 - j) ∧ lo / 2 ^ (63 - j) ≤ 18446744073709551615 := ⟨Int.ediv_nonneg hl.1 (Int.le_of_lt (Int.pow_pos (by decide))), by have := Int.ediv_le_self (2 ^ (63 - j)) hl.1; omega⟩
        have x6 : bits BinOp.and IntKind.u64 (lo / 2 ^ (63 - j)) 1 = bt := by rw [and_one_u64 _ hw.1 hw.2]; exact WB1
        clear WB1 hw
        by_cases hge : r * 2 + bt < c
        · have RS := hid (RES.out.1 hge)
          go_wp2
          go_roundw
          case rel => exact ⟨j + 64 + 1, by omega, by go_num, by rw [show 128 - (j + 64 + 1) = 127 - (j + 64) by omega, HT.out, RS.out.1], by rw [show 128 - (j + 64 + 1) = 127 - (j + 64) by omega, HT.out, RS.out.2], BB.out⟩
          case measure => simp [intOf]; omega
        · have RS := hid (RES.out.2 (by omega))
          have x7 : IntKind.u64.wrap (r * 2 + bt - c) = r * 2 + bt - c := by rw [IntKind.wrap_u64]; omega
          go_wp2
          go_roundw
          case rel => exact ⟨j + 64 + 1, by omega, by go_num, by rw [show 128 - (j + 64 + 1) = 127 - (j + 64) by omega, HT.out, RS.out.1], by rw [show 128 - (j + 64 + 1) = 127 - (j + 64) by omega, HT.out, RS.out.2], BB.out⟩
          case measure => simp [intOf]; omega
    · obtain rfl : k = 128 := by omega
      have e1 : N / 2 ^ (128 - 128) = N := by simp
      rw [e1]
      go_wp2
      go_ret3
      exact ⟨rfl, B0.out.trans (BB.out.mono B0.out.size)⟩
/-- To the nearest of thousand millions, half to the even one. -/
def rnd (N : Int) : Int := if 1000000000 < 2 * (N % 1000000000) ∨ (2 * (N % 1000000000) = 1000000000 ∧ N / 1000000000 % 2 = 1) then N / 1000000000 + 1 else N / 1000000000
set_option linter.unusedSimpArgs false in
set_option maxRecDepth 100000 in
set_option maxHeartbeats 8000000 in
theorem muldiv_any (a b : Int) (w : World) (ha : 0 ≤ a ∧ a ≤ 206158430208000) (hb : 0 ≤ b ∧ b ≤ 1000000) : Calls Try.prog 39 #[.int .i64 a, .int .i64 b, .int .i64 1000000000, .int .i64 2] w fun e w' => e = .returned (.tuple #[.int .i64 (rnd (a * b)), .int .i64 0]) ∧ Below w.heap.size w w' := by
  have HN0 : 0 ≤ a * b := Int.mul_nonneg ha.1 hb.1
  have HN1 : a * b ≤ 206158430208000 * 1000000 := Int.mul_le_mul ha.2 hb.2 hb.1 (by decide)
  obtain ⟨N, hN⟩ : ∃ N, a * b = N := ⟨_, rfl⟩
  rw [hN] at HN0 HN1 ⊢
  have HNN := hid hN
  clear hN
  obtain ⟨R, hR⟩ : ∃ R, rnd N = R := ⟨_, rfl⟩
  rw [hR]
  have HR := hid hR
  clear hR
  have B0 := hid ((Below.refl w.heap.size w).alloc (Nat.le_refl _) (.cells #[.int .i64 a, .int .i64 b, .int .i64 1000000000] 3))
  have L0 := hid (Rds.newAt w w.heap.size #[.int .i64 a, .int .i64 b, .int .i64 1000000000] (ints [a, b, 1000000000]) 3 3 1 rfl rfl rfl)
  go_enter Try.func39, Try.ntmps39
  go_wp2_with fail
  refine (nin_any _ _ 3 [a, b, 1000000000] _ L0.out rfl (by decide) (by intro x hx; simp at hx; rcases hx with rfl | rfl | rfl <;> omega)).mono ?_
  rintro e w1 ⟨rfl, hb1⟩
  have B1 := hid (B0.out.trans (hb1.mono B0.out.size))
  clear hb1 L0
  go_wp2_with fail
  refine (nsize_any a _ (by omega)).mono ?_
  rintro e w2 ⟨rfl, hb2⟩
  have B2 := hid (B1.out.trans (hb2.mono B1.out.size))
  clear hb2
  go_wp2_with fail
  refine (nsize_any b _ (by omega)).mono ?_
  rintro e w3 ⟨rfl, hb3⟩
  have B3 := hid (B2.out.trans (hb3.mono B2.out.size))
  clear hb3
  go_wp2_with fail
  refine (nprod_any a b _ (by omega) (by omega)).mono ?_
  rintro e w4 ⟨hi, lo, rfl, r1, r2, r3, hb4⟩
  have B4 := hid (B3.out.trans (hb4.mono B3.out.size))
  clear hb4
  go_wp2_with fail
  refine (nsize_any 1000000000 _ (by decide)).mono ?_
  rintro e w5 ⟨rfl, hb5⟩
  have B5 := hid (B4.out.trans (hb5.mono B4.out.size))
  clear hb5
  go_wp2_with fail
  refine (ndiv_any hi lo 1000000000 _ r1 r2 (by decide) (by rw [r3, HNN.out]; omega)).mono ?_
  rintro e w6 ⟨rfl, hb6⟩
  have B6 := hid (B5.out.trans (hb6.mono B5.out.size))
  rw [r3, HNN.out]
  clear hb6 r1 r2 r3
  obtain ⟨q, hq⟩ : ∃ q, N / 1000000000 = q := ⟨_, rfl⟩
  obtain ⟨r, hr⟩ : ∃ r, N % 1000000000 = r := ⟨_, rfl⟩
  have RN : Hid ((1000000000 < 2 * r → rnd N = q + 1) ∧ (2 * r = 1000000000 → q % 2 = 1 → rnd N = q + 1) ∧ (¬ (1000000000 < 2 * r ∨ (2 * r = 1000000000 ∧ q % 2 = 1)) → rnd N = q)) := hid (by
    unfold rnd
    rw [hq, hr]
    exact ⟨fun h => if_pos (.inl h), fun h h2 => if_pos (.inr ⟨h, h2⟩), fun h => if_neg h⟩)
  rw [hq, hr]
  have q1 : 0 ≤ q ∧ q ≤ 206158430208 := by omega
  have r1 : 0 ≤ r ∧ r < 1000000000 := by omega
  have a1 : decide (a < 0) = false := decide_eq_false (by omega)
  have b1 : decide (b < 0) = false := decide_eq_false (by omega)
  have w1' : IntKind.u64.wrap (2 * r) = 2 * r := by rw [IntKind.wrap_u64]; omega
  have w2' : IntKind.u64.wrap (q + 1) = q + 1 := by rw [IntKind.wrap_u64]; omega
  have w3' : IntKind.i64.wrap (q + 1) = q + 1 := IntWalk.i64_in _ (by omega)
  have w4' : IntKind.i64.wrap q = q := IntWalk.i64_in _ (by omega)
  clear hq hr HN0 HN1 ha hb
  have g1 : ¬ (1125899906842624 < q) := by omega
  have g2 : ¬ (1125899906842624 < q + 1) := by omega
  go_wp2_with fail
  refine (nsize_any 1000000000 _ (by decide)).mono ?_
  rintro e w7 ⟨rfl, hb⟩
  have B7 := hid (B6.out.trans (hb.mono B6.out.size))
  clear hb
  by_cases h1 : 1000000000 < 2 * r
  · obtain rfl : q + 1 = R := (RN.out.1 h1).symm.trans HR.out
    go_wp2
    go_ret2
    exact ⟨rfl, B7.out⟩
  go_wp2_with fail
  refine (nsize_any 1000000000 _ (by decide)).mono ?_
  rintro e w8 ⟨rfl, hb⟩
  have B8 := hid (B7.out.trans (hb.mono B7.out.size))
  clear hb
  by_cases h2 : 2 * r = 1000000000
  · by_cases h3 : q % 2 = 1
    · obtain rfl : q + 1 = R := (RN.out.2.1 h2 h3).symm.trans HR.out
      go_wp2
      go_ret2
      exact ⟨rfl, B8.out⟩
    · obtain rfl : q = R := (RN.out.2.2 (by omega)).symm.trans HR.out
      go_wp2
      go_ret2
      exact ⟨rfl, B8.out⟩
  · obtain rfl : q = R := (RN.out.2.2 (by omega)).symm.trans HR.out
    go_wp2
    go_ret2
    exact ⟨rfl, B8.out⟩
set_option linter.unusedSimpArgs false in
set_option maxRecDepth 100000 in
set_option maxHeartbeats 8000000 in
theorem rdivide_any (a b : Int) (w : World) (ha : 0 ≤ a ∧ a ≤ 1000000) (hb : 0 ≤ b ∧ b ≤ 206158430208000) : Calls Try.prog 62 #[.int .i64 a, .int .i64 b, .int .i64 1000000000] w fun e w' => e = .returned (.tuple #[.int .i64 (a * b / 1000000000), .int .i64 (a * b % 1000000000)]) ∧ Below w.heap.size w w' := by
  have HA := hid ha
  have HB := hid hb
  go_enter Try.func62, Try.ntmps62
  go_wp2
  go_loopw [8, 9, 10] (fun uq ur ub wr => ∃ k : Nat, k ≤ 51 ∧ ub = .int .i64 (50 - (k : Int)) ∧ uq = .int .i64 (a * (b / 2 ^ (51 - k)) / 1000000000) ∧ ur = .int .i64 (a * (b / 2 ^ (51 - k)) % 1000000000) ∧ Below w.heap.size w wr) (fun _ _ ub _ => ((intOf ub) + 1).toNat)
  case atStart => exact ⟨0, by omega, rfl, by rw [show b / 2 ^ (51 - 0) = 0 by omega]; simp, by rw [show b / 2 ^ (51 - 0) = 0 by omega]; simp, Below.refl _ _⟩
  case round =>
    obtain ⟨k, hk, rfl, rfl, rfl, hbel⟩ := hrel
    have BB := hid hbel
    clear hbel
    by_cases hlt : k < 51
    · obtain ⟨T, hT⟩ : ∃ T, b / 2 ^ (50 - k) = T := ⟨_, rfl⟩
      have hT2 : b / 2 ^ (51 - k) = T / 2 := by rw [show 51 - k = (50 - k) + 1 by omega, top_step, hT]
      have hT0 : 0 ≤ T ∧ T ≤ 206158430208000 := by
        rw [← hT]
        have := Int.ediv_le_self (2 ^ (50 - k)) hb.1
        exact ⟨Int.ediv_nonneg hb.1 (Int.le_of_lt (Int.pow_pos (by decide))), by omega⟩
      rw [hT2]
      obtain ⟨X, hX⟩ : ∃ X, a * (T / 2) = X := ⟨_, rfl⟩
      have hX0 : 0 ≤ X ∧ X ≤ 1000000 * 206158430208000 := by
        rw [← hX]
        exact ⟨Int.mul_nonneg ha.1 (by omega), Int.mul_le_mul ha.2 (by omega) (by omega) (by decide)⟩
      rw [hX]
      obtain ⟨q, hq⟩ : ∃ q, X / 1000000000 = q := ⟨_, rfl⟩
      obtain ⟨r, hr⟩ : ∃ r, X % 1000000000 = r := ⟨_, rfl⟩
      rw [hq, hr]
      have wq : IntKind.i64.wrap (2 * q) = 2 * q := IntWalk.i64_in _ (by omega)
      have wr1 : IntKind.i64.wrap (2 * r) = 2 * r := IntWalk.i64_in _ (by omega)
      have wr2 : IntKind.i64.wrap (2 * r + a) = 2 * r + a := IntWalk.i64_in _ (by omega)
      have wk : IntKind.i64.wrap (50 - (k : Int) - 1) = 50 - (k : Int) - 1 := IntWalk.i64_in _ (by omega)
      obtain ⟨bt, hbt⟩ : ∃ bt, T % 2 = bt := ⟨_, rfl⟩
      have hb1 : bits BinOp.and IntKind.i64 T 1 = bt := by rw [and_one_i64 T]; exact hbt
      have AT : Hid (a * T = (2 * q) * 1000000000 + (2 * r + a * bt)) := hid (by
        have h1 : T = 2 * (T / 2) + bt := by omega
        have h2 : a * T = 2 * (a * (T / 2)) + a * bt := by rw [← Int.mul_assoc, Int.mul_comm 2 a, Int.mul_assoc, ← Int.mul_add, ← h1]
        rw [h2, hX]
        omega)
      have HT := hid hT
      have q0 : 0 ≤ q ∧ q ≤ 206158430208 := by omega
      have r0 : 0 ≤ r ∧ r < 1000000000 := by omega
      have bt01 : bt = 0 ∨ bt = 1 := by omega
      clear hT2 hX hq hr hX0 hT0 hbt
      obtain ⟨Y, hY⟩ : ∃ Y, a * T = Y := ⟨_, rfl⟩
      have HY := hid hY
      have AY : Hid (Y = (2 * q) * 1000000000 + (2 * r + a * bt)) := hid (by rw [← hY]; exact AT.out)
      clear hY
      rcases bt01 with rfl | rfl
      all_goals
        have AZ := hid (by have := AY.out; simpa using this)
        go_wp2
        go_loopw [8, 9] (fun uq ur ws => ∃ q' r' : Int, uq = .int .i64 q' ∧ ur = .int .i64 r' ∧ q' * 1000000000 + r' = Y ∧ 0 ≤ r' ∧ r' ≤ 3000000000 ∧ 0 ≤ q' ∧ Below w.heap.size w ws) (fun _ ur _ => (intOf ur).toNat)
        case atStart => exact ⟨_, _, rfl, rfl, by have := AZ.out; omega, by omega, by omega, by omega, BB.out⟩
        case round =>
          obtain ⟨q', r', rfl, rfl, hqr, hr1, hr2, hq1, hbel2⟩ := hrel
          have BC := hid hbel2
          clear hbel2
          by_cases hge : 1000000000 ≤ r'
          · have w1' : IntKind.i64.wrap (q' + 1) = q' + 1 := IntWalk.i64_in _ (by have := AZ.out; omega)
            have w2' : IntKind.i64.wrap (r' - 1000000000) = r' - 1000000000 := IntWalk.i64_in _ (by omega)
            go_wp2
            go_roundw
            case rel => exact ⟨q' + 1, r' - 1000000000, rfl, rfl, by omega, by omega, by omega, by omega, BC.out⟩
            case measure => simp [intOf]; omega
          · have hd : Hid (Y / 1000000000 = q' ∧ Y % 1000000000 = r') := hid (by omega)
            go_wp2
            go_roundw
            case rel => exact ⟨k + 1, by omega, by push_cast; congr 1; omega, by rw [show 51 - (k + 1) = 50 - k by omega, HT.out, HY.out, hd.out.1], by rw [show 51 - (k + 1) = 50 - k by omega, HT.out, HY.out, hd.out.2], BC.out⟩
            case measure => simp [intOf]; omega
    · obtain rfl : k = 51 := by omega
      rw [show b / 2 ^ (51 - 51) = b by simp]
      go_wp2
      go_ret2
      exact ⟨rfl, BB.out⟩
set_option linter.unusedSimpArgs false in
set_option maxRecDepth 100000 in
set_option maxHeartbeats 8000000 in
theorem rnearest_any (a b : Int) (w : World) (ha : 0 ≤ a ∧ a ≤ 206158430208000) (hb : 0 ≤ b ∧ b ≤ 1000000) : Calls Try.prog 40 #[.int .i64 a, .int .i64 b] w fun e w' => e = .returned (.int .i64 (rnd (a * b))) ∧ Below w.heap.size w w' := by
  have HN0 : 0 ≤ a * b := Int.mul_nonneg ha.1 hb.1
  have HN1 : a * b ≤ 206158430208000 * 1000000 := Int.mul_le_mul ha.2 hb.2 hb.1 (by decide)
  obtain ⟨N, hN⟩ : ∃ N, a * b = N := ⟨_, rfl⟩
  rw [hN] at HN0 HN1 ⊢
  have HNN := hid ((Int.mul_comm b a).trans hN)
  clear hN
  obtain ⟨R, hR⟩ : ∃ R, rnd N = R := ⟨_, rfl⟩
  rw [hR]
  have HR := hid hR
  clear hR
  go_enter Try.func40, Try.ntmps40
  go_wp2_with fail
  refine (rdivide_any b a _ hb ha).mono ?_
  rintro e w1 ⟨rfl, hb1⟩
  have B1 := hid hb1
  rw [HNN.out]
  clear hb1
  obtain ⟨q, hq⟩ : ∃ q, N / 1000000000 = q := ⟨_, rfl⟩
  obtain ⟨r, hr⟩ : ∃ r, N % 1000000000 = r := ⟨_, rfl⟩
  have RN : Hid ((1000000000 < 2 * r → rnd N = q + 1) ∧ (2 * r = 1000000000 → q % 2 = 1 → rnd N = q + 1) ∧ (¬ (1000000000 < 2 * r ∨ (2 * r = 1000000000 ∧ q % 2 = 1)) → rnd N = q)) := hid (by
    unfold rnd
    rw [hq, hr]
    exact ⟨fun h => if_pos (.inl h), fun h h2 => if_pos (.inr ⟨h, h2⟩), fun h => if_neg h⟩)
  rw [hq, hr]
  have q1 : 0 ≤ q ∧ q ≤ 206158430208 := by omega
  have r1 : 0 ≤ r ∧ r < 1000000000 := by omega
  have w1' : IntKind.i64.wrap (2 * r) = 2 * r := IntWalk.i64_in _ (by omega)
  have w2' : IntKind.i64.wrap (q + 1) = q + 1 := IntWalk.i64_in _ (by omega)
  clear hq hr HN0 HN1 ha hb
  by_cases h1 : 1000000000 < 2 * r
  · obtain rfl : q + 1 = R := (RN.out.1 h1).symm.trans HR.out
    go_wp2
    go_ret
    exact ⟨rfl, B1.out⟩
  by_cases h2 : 2 * r = 1000000000
  · by_cases h3 : q % 2 = 1
    · obtain rfl : q + 1 = R := (RN.out.2.1 h2 h3).symm.trans HR.out
      go_wp2
      go_ret
      exact ⟨rfl, B1.out⟩
    · obtain rfl : q = R := (RN.out.2.2 (by omega)).symm.trans HR.out
      go_wp2
      go_ret
      exact ⟨rfl, B1.out⟩
  · obtain rfl : q = R := (RN.out.2.2 (by omega)).symm.trans HR.out
    go_wp2
    go_ret
    exact ⟨rfl, B1.out⟩
end Go.Proofs.Ytddphdkhaaolmaa
