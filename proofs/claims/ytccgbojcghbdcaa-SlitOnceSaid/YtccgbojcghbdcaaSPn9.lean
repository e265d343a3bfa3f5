/- Chapter 38: room, Fits, Left. -/
import Derived.Test.YtccgbojcghbdcaaSPn8
namespace Go.Proofs.Ytccgbojcghbdcaa
open Go.RowKit

def ftErr (W E T J : Int) (zs cs : List Int) : Int := if chkErr W E T J zs ≠ 0 then chkErr W E T J zs else fitErr W E T J zs cs
def rmP (W E T J : Int) (zs cs : List Int) : Int := if fitErr W E T J zs cs = 0 then sumI cs else 0
def rmL (W E T J : Int) (zs cs : List Int) : Int := if fitErr W E T J zs cs = 0 then us W E - dot cs zs else 0
def lfV (W E T J : Int) (zs cs : List Int) : Int := if ftErr W E T J zs cs = 0 then us W E - dot cs zs else 0
theorem sum_le_take {l : List Int} (h : ∀ n ∈ l, 0 ≤ n) (k : Nat) : sumI (l.take k) ≤ sumI l := by
  induction l generalizing k with
  | nil => simp
  | cons y l ih =>
    have h1 := h y (by simp)
    have h2 : ∀ n ∈ l, 0 ≤ n := fun n hn => h n (by simp [hn])
    cases k with
    | zero => have := sumI_nonneg h2; simp [sumI]; omega
    | succ k => have := ih h2 k; rw [List.take_succ_cons]; simp only [sumI]; omega
theorem dot_sum {l zs : List Int} (h : ∀ n ∈ l, 0 ≤ n) (hz : ∀ z ∈ zs, 1 ≤ z ∧ z ≤ 12000) : 0 ≤ dot l zs ∧ dot l zs ≤ 12000 * sumI l := by
  induction l generalizing zs with
  | nil => simp [dot, sumI]
  | cons y l ih =>
    have h1 := h y (by simp)
    have h2 : ∀ n ∈ l, 0 ≤ n := fun n hn => h n (by simp [hn])
    have h3 := sumI_nonneg h2
    cases zs with
    | nil => simp [dot, sumI]; omega
    | cons z zs =>
      have := ih h2 (zs := zs) (fun q hq => hz q (by simp [hq]))
      have hzz := hz z (by simp)
      have h4 := Int.mul_nonneg h1 (show 0 ≤ z by omega)
      have h5 := Int.mul_le_mul_of_nonneg_left hzz.2 h1
      simp only [dot, sumI]
      omega
theorem sum_zero {l : List Int} (h : ∀ n ∈ l, 0 ≤ n) : sumI l = 0 ↔ ∀ n ∈ l, n ≤ 0 := by
  induction l with
  | nil => simp [sumI]
  | cons y l ih =>
    have h1 := h y (by simp)
    have h2 : ∀ n ∈ l, 0 ≤ n := fun n hn => h n (by simp [hn])
    have h3 := sumI_nonneg h2
    have ih := ih h2
    simp only [sumI]
    constructor
    · intro he n hn
      rcases List.mem_cons.1 hn with rfl | hn
      · omega
      · exact ih.1 (by omega) n hn
    · intro hn
      have := ih.2 (fun n hn2 => hn n (by simp [hn2]))
      have := hn y (by simp)
      omega
def RmPost (W E T J : Int) (zs cs : List Int) (w : World) : Ending → World → Prop := fun e w' => e = .returned (.tuple #[.int .i64 (rmP W E T J zs cs), .int .i64 (rmL W E T J zs cs), .int .i64 (fitErr W E T J zs cs)]) ∧ Below w.heap.size w w'
theorem rm_no {W E T J x : Int} {zs cs : List Int} {w w' : World} (h : x = fitErr W E T J zs cs) (hx : x ≠ 0) (hb : Below w.heap.size w w') : RmPost W E T J zs cs w (.returned (.tuple #[.int .i64 0, .int .i64 0, .int .i64 x])) w' := by
  subst h
  unfold RmPost rmP rmL
  rw [if_neg hx, if_neg hx]
  exact ⟨rfl, hb⟩
theorem rm_ok {W E T J x y : Int} {zs cs : List Int} {w w' : World} (h : fitErr W E T J zs cs = 0) (hx : x = sumI cs) (hy : y = us W E - dot cs zs) (hb : Below w.heap.size w w') : RmPost W E T J zs cs w (.returned (.tuple #[.int .i64 x, .int .i64 y, .int .i64 0])) w' := by
  subst hx hy
  unfold RmPost rmP rmL
  rw [if_pos h, if_pos h, h]
  exact ⟨rfl, hb⟩
set_option linter.unusedSimpArgs false in
set_option maxRecDepth 100000 in
set_option maxHeartbeats 8000000 in
theorem room_any (W E T J : Int) (a a2 : Option Addr) (c c2 n n2 : Nat) (zs cs : List Int) (w : World) (r : Rds Nn w 1 a n (ints zs)) (r2 : Rds Nn w 1 a2 n2 (ints cs)) (hn : n = zs.length) (hn2 : n2 = cs.length) (hl : n ≤ maxLen) (hl2 : n2 ≤ 1000000) (hr : Right W E T J zs) : Calls Try.prog 44 #[.agg #[.int .i64 W, .int .i64 E, .int .i64 T, .int .i64 J, .slice a n c], .slice a2 n2 c2] w (RmPost W E T J zs cs w) := by
  have n8 : 1 ≤ n ∧ n ≤ 8 := by rw [hn]; exact hr.n
  have ub := us_pos hr
  have kb := hr.k
  have wb := hr.w
  have eb := hr.e
  have tb := hr.t
  have zb := hid (show ∀ z ∈ zs, 1 ≤ z ∧ z ≤ 12000 from fun z hz => by have := hr.z z hz; omega)
  have RR := hid r
  have R2 := hid r2
  have HN2 := hid hn2
  have HN := hid hn
  clear r r2 hn hn2
  have D0 := hid (Blk.at_new w (b := w.heap.size) (t := 32) (cs := #[.int .i64 W, .int .i64 E, .int .i64 T, .int .i64 J, .slice a n c]) rfl)
  have B0 := hid ((Below.refl w.heap.size w).alloc (Nat.le_refl _) (.cells #[.int .i64 W, .int .i64 E, .int .i64 T, .int .i64 J, .slice a n c] 32))
  have cD := D0.out.cell
  by_cases hlen : n2 = n
  rotate_left
  · have R : Hid (3 = fitErr W E T J zs cs) := hid (by unfold fitErr; rw [if_pos (by rw [← HN.out, ← HN2.out]; exact hlen)])
    go_enter Try.func44, Try.ntmps44
    go_wp2
    refine bodyPost_ret (results_tmp3 rfl _ _ _) rfl ?_
    exact rm_no R.out (by omega) B0.out
  obtain rfl : n = n2 := hlen.symm
  have HLN : Hid (cs.length = zs.length) := hid (by rw [← HN.out, ← HN2.out])
  go_enter Try.func44, Try.ntmps44
  go_wp2_with fail
  refine (min_any a2 c2 n cs _ (R2.out.below B0.out) HN2.out n8.1 (by omega)).mono ?_
  rintro e w1 ⟨x, rfl, hx, hall, rfl⟩
  by_cases hneg : x < 0
  · have R : Hid (1 = fitErr W E T J zs cs) := hid (by unfold fitErr; rw [if_neg (fun e => e HLN.out), if_pos (fun e => by have := e x hx; omega)])
    clear hx hall
    go_wp2
    refine bodyPost_ret (results_tmp3 rfl _ _ _) rfl ?_
    exact rm_no R.out (by omega) B0.out
  have NN : Hid (∀ n ∈ cs, 0 ≤ n) := hid (fun n hn => by have := hall n hn; omega)
  clear hx hall
  go_wp2_with fail
  refine (max_any a2 c2 n cs _ (R2.out.below B0.out) HN2.out n8.1 (by omega)).mono ?_
  rintro e w1 ⟨y, rfl, hy, hall, rfl⟩
  by_cases hzero : y = 0
  · have R : Hid (10 = fitErr W E T J zs cs) := hid (by unfold fitErr; rw [if_neg (fun e => e HLN.out), if_neg (fun e => e NN.out), if_pos ((sum_zero NN.out).2 (fun n hn => by have := hall n hn; omega))])
    have hz : (y == 0) = true := by simpa using hzero
    clear hy hall
    go_wp2
    refine bodyPost_ret (results_tmp3 rfl _ _ _) rfl ?_
    exact rm_no R.out (by omega) B0.out
  have SZ : Hid (sumI cs ≠ 0) := hid (fun e => by have := (sum_zero NN.out).1 e y hy; have := NN.out y hy; omega)
  have hz : (y == 0) = false := by simpa using hzero
  clear hy hall hzero
  go_wp2_with (refine wpList_load_blk2 (t := 32) rfl rfl rfl Try.underlying32 rfl (by kernel_rfl) D0.out ?_)
  refine (usable_any W E T J _ _ (by omega) (by omega)).mono ?_
  rintro e w2 ⟨rfl, hb⟩
  have D2 := hid (D0.out.below hb D0.out.lt)
  have B2 := hid (B0.out.trans (hb.mono B0.out.size))
  clear hb cD
  have cD := D2.out.cell
  go_wp2
  go_loopw [7, 8, 27] (fun u v i wr => ∃ k : Nat, k ≤ n ∧ i = .int .i64 k ∧ u = .int .i64 (sumI (cs.take k)) ∧ v = .int .i64 (us W E - dot (cs.take k) zs) ∧ sumI (cs.take k) ≤ J ∧ wr = w2) (fun _ _ i _ => n - (intOf i).toNat)
  case atStart => exact ⟨0, Nat.zero_le _, rfl, rfl, by simp [dot], by simp [sumI]; omega, rfl⟩
  case round =>
    obtain ⟨k, hk, rfl, rfl, rfl, hsum, rfl⟩ := hrel
    have b1 := sumI_nonneg (c := cs.take k) (fun n hn => NN.out n (List.mem_of_mem_take hn))
    have b2 := dot_sum (l := cs.take k) (fun n hn => NN.out n (List.mem_of_mem_take hn)) zb.out
    have TL := hid (sum_le_take NN.out (k + 1))
    obtain ⟨SS, hSS⟩ : ∃ SS, sumI (cs.take k) = SS := ⟨_, rfl⟩
    obtain ⟨DS, hDS⟩ : ∃ DS, dot (cs.take k) zs = DS := ⟨_, rfl⟩
    by_cases hlt : k < n
    · obtain ⟨p1, o1, z, rfl, _, hz1, hc1⟩ := num_at RR.out hlt
      obtain ⟨p2, o2, m, rfl, _, hm, hc2⟩ := num_at R2.out hlt
      have e1 := hc1 _ B2.out
      have e2 := hc2 _ B2.out
      have ST := hid (sum_take hm)
      have DT := hid (dot_take hm hz1)
      have m0 := NN.out m (List.mem_of_getElem? hm)
      have z0 := zb.out z (List.mem_of_getElem? hz1)
      rw [hSS] at b1 b2 ST hsum
      rw [hDS] at b2 DT
      rw [hSS, hDS]
      clear hc1 hc2 hm hz1 hSS hDS
      have w1 : IntKind.i64.wrap (J - SS) = J - SS := IntWalk.i64_in _ (by omega)
      by_cases hgt : J - SS < m
      · have R : Hid (23 = fitErr W E T J zs cs) := hid (by
          have := TL.out
          rw [ST.out] at this
          unfold fitErr
          rw [if_neg (fun e => e HLN.out), if_neg (fun e => e NN.out), if_neg SZ.out, if_pos (by omega)])
        go_wp2
        refine bodyPost_ret (results_tmp3 rfl _ _ _) rfl ?_
        exact rm_no R.out (by omega) B2.out
      · have hmz0 := Int.mul_nonneg m0 (show 0 ≤ z by omega)
        have hmz1 : m * z ≤ 12 * 12000 := Int.mul_le_mul (by omega) z0.2 (by omega) (by omega)
        obtain ⟨X, hX⟩ : ∃ X, m * z = X := ⟨_, rfl⟩
        rw [hX] at hmz0 hmz1 DT
        have w2 : IntKind.i64.wrap X = X := IntWalk.i64_in _ (by omega)
        have w3 : IntKind.i64.wrap (SS + m) = SS + m := IntWalk.i64_in _ (by omega)
        have w4 : IntKind.i64.wrap (us W E - DS - X) = us W E - DS - X := IntWalk.i64_in _ (by omega)
        go_wp2
        go_roundw
        case rel => exact ⟨k + 1, by omega, by go_num, by rw [ST.out], by rw [DT.out, show us W E - DS - X = us W E - (DS + X) by omega], by rw [ST.out]; omega, by trivial⟩
        case measure => simp [intOf]; omega
    · obtain rfl : k = n := by omega
      have TK : Hid (cs.take k = cs) := hid (List.take_of_length_le (by rw [← HN2.out]; exact Nat.le_refl _))
      rw [TK.out] at hSS hDS hsum b1 b2
      rw [TK.out]
      rw [hSS] at b1 b2 hsum
      rw [hDS] at b2
      rw [hSS, hDS]
      have FE : Hid (fitErr W E T J zs cs = if us W E < DS then 20 else if T < us W E - DS then 24 else 0) := hid (by
        unfold fitErr
        rw [if_neg (fun e => e HLN.out), if_neg (fun e => e NN.out), if_neg SZ.out, if_neg (by omega), hDS])
      have HS2 := hid hSS
      have HD2 := hid hDS
      clear hSS hDS
      rcases Int.lt_or_le (us W E) DS with h1 | h1
      · have R : Hid (20 = fitErr W E T J zs cs) := hid (by rw [FE.out, if_pos h1])
        go_wp2
        refine bodyPost_ret (results_tmp3 rfl _ _ _) rfl ?_
        exact rm_no R.out (by omega) B2.out
      · rcases Int.lt_or_le T (us W E - DS) with h2 | h2
        · have R : Hid (24 = fitErr W E T J zs cs) := hid (by rw [FE.out, if_neg (by omega), if_pos h2])
          go_wp2
          refine bodyPost_ret (results_tmp3 rfl _ _ _) rfl ?_
          exact rm_no R.out (by omega) B2.out
        · have R : Hid (fitErr W E T J zs cs = 0) := hid (by rw [FE.out, if_neg (by omega), if_neg (by omega)])
          go_wp2
          refine bodyPost_ret (results_tmp3 rfl _ _ _) rfl ?_
          exact rm_ok R.out HS2.out.symm (by rw [HD2.out]) B2.out
set_option linter.unusedSimpArgs false in
set_option maxRecDepth 100000 in
set_option maxHeartbeats 4000000 in
theorem pfits_any (W E T J : Int) (a a2 : Option Addr) (c c2 n n2 : Nat) (zs cs : List Int) (w : World) (r : Rds Nn w 1 a n (ints zs)) (r2 : Rds Nn w 1 a2 n2 (ints cs)) (hn : n = zs.length) (hn2 : n2 = cs.length) (hl : n ≤ maxLen) (hl2 : n2 ≤ 1000000) : Calls Try.prog 36 #[.agg #[.int .i64 W, .int .i64 E, .int .i64 T, .int .i64 J, .slice a n c], .slice a2 n2 c2] w fun e w' => e = .returned (.int .i64 (ftErr W E T J zs cs)) ∧ Below w.heap.size w w' := by
  have RR := hid r
  have R2 := hid r2
  have HN2 := hid hn2
  have HN := hid hn
  clear r r2 hn hn2
  have D0 := hid (Blk.at_new w (b := w.heap.size) (t := 32) (cs := #[.int .i64 W, .int .i64 E, .int .i64 T, .int .i64 J, .slice a n c]) rfl)
  have B0 := hid ((Below.refl w.heap.size w).alloc (Nat.le_refl _) (.cells #[.int .i64 W, .int .i64 E, .int .i64 T, .int .i64 J, .slice a n c] 32))
  go_enter Try.func36, Try.ntmps36
  go_wp2_with (refine wpList_load_blk2 (t := 32) rfl rfl rfl Try.underlying32 rfl (by kernel_rfl) D0.out ?_)
  refine (check_any W E T J a c n zs _ (RR.out.below B0.out) HN.out hl).mono ?_
  rintro e w1 ⟨rfl, hb⟩
  have D1 := hid (D0.out.below hb D0.out.lt)
  have B1 := hid (B0.out.trans (hb.mono B0.out.size))
  clear hb
  by_cases hz : chkErr W E T J zs = 0
  rotate_left
  · have hz2 : (chkErr W E T J zs != 0) = true := by simpa using hz
    have R : Hid (chkErr W E T J zs = ftErr W E T J zs cs) := hid (by unfold ftErr; rw [if_pos hz])
    clear hz
    go_wp2
    go_ret
    exact ⟨ret_i R.out, B1.out⟩
  have HR := hid (dk_right (chk_ok hz).1)
  have R : Hid (fitErr W E T J zs cs = ftErr W E T J zs cs) := hid (by unfold ftErr; rw [if_neg (fun e => e hz)])
  rw [hz]
  clear hz
  go_wp2_with (refine wpList_load_blk2 (t := 32) rfl rfl rfl Try.underlying32 rfl (by kernel_rfl) D1.out ?_)
  refine (room_any W E T J a a2 c c2 n n2 zs cs _ (RR.out.below B1.out) (R2.out.below B1.out) HN.out HN2.out hl hl2 HR.out).mono ?_
  rintro e w2 ⟨rfl, hb⟩
  have B2 := hid (B1.out.trans (hb.mono B1.out.size))
  clear hb
  go_wp2
  go_ret
  exact ⟨ret_i R.out, B2.out⟩
set_option linter.unusedSimpArgs false in
set_option maxRecDepth 100000 in
set_option maxHeartbeats 4000000 in
theorem rpfits_any (W E T J : Int) (a a2 : Option Addr) (c c2 n n2 : Nat) (zs cs : List Int) (w : World) (r : Rds Nn w 1 a n (ints zs)) (r2 : Rds Nn w 1 a2 n2 (ints cs)) (hn : n = zs.length) (hn2 : n2 = cs.length) (hl : n ≤ maxLen) (hl2 : n2 ≤ 1000000) : Calls Try.prog 37 #[.agg #[.int .i64 W, .int .i64 E, .int .i64 T, .int .i64 J, .slice a n c], .slice a2 n2 c2] w fun e w' => e = .returned (.int .i64 (ftErr W E T J zs cs)) ∧ Below w.heap.size w w' := by
  have RR := hid r
  have R2 := hid r2
  have HN2 := hid hn2
  have HN := hid hn
  clear r r2 hn hn2
  have D0 := hid (Blk.at_new w (b := w.heap.size) (t := 32) (cs := #[.int .i64 W, .int .i64 E, .int .i64 T, .int .i64 J, .slice a n c]) rfl)
  have B0 := hid ((Below.refl w.heap.size w).alloc (Nat.le_refl _) (.cells #[.int .i64 W, .int .i64 E, .int .i64 T, .int .i64 J, .slice a n c] 32))
  go_enter Try.func37, Try.ntmps37
  go_wp2_with (refine wpList_load_blk2 (t := 32) rfl rfl rfl Try.underlying32 rfl (by kernel_rfl) D0.out ?_)
  refine (rcheck_any W E T J a c n zs _ (RR.out.below B0.out) HN.out hl).mono ?_
  rintro e w1 ⟨rfl, hb⟩
  have D1 := hid (D0.out.below hb D0.out.lt)
  have B1 := hid (B0.out.trans (hb.mono B0.out.size))
  clear hb
  by_cases hz : chkErr W E T J zs = 0
  rotate_left
  · have hz2 : (chkErr W E T J zs != 0) = true := by simpa using hz
    have R : Hid (chkErr W E T J zs = ftErr W E T J zs cs) := hid (by unfold ftErr; rw [if_pos hz])
    clear hz
    go_wp2
    go_ret
    exact ⟨ret_i R.out, B1.out⟩
  have HR := hid (dk_right (chk_ok hz).1)
  have R : Hid (fitErr W E T J zs cs = ftErr W E T J zs cs) := hid (by unfold ftErr; rw [if_neg (fun e => e hz)])
  rw [hz]
  clear hz
  go_wp2_with (refine wpList_load_blk2 (t := 32) rfl rfl rfl Try.underlying32 rfl (by kernel_rfl) D1.out ?_)
  refine (rfits_any W E T J a a2 c c2 n n2 zs cs _ (RR.out.below B1.out) (R2.out.below B1.out) HN.out HN2.out hl2 HR.out).mono ?_
  rintro e w2 ⟨rfl, hb⟩
  have B2 := hid (B1.out.trans (hb.mono B1.out.size))
  clear hb
  go_wp2
  go_ret
  exact ⟨ret_i R.out, B2.out⟩
def LfPost (W E T J : Int) (zs cs : List Int) (w : World) : Ending → World → Prop := fun e w' => e = .returned (.tuple #[.int .i64 (lfV W E T J zs cs), .int .i64 (ftErr W E T J zs cs)]) ∧ Below w.heap.size w w'
set_option linter.unusedSimpArgs false in
set_option maxRecDepth 100000 in
set_option maxHeartbeats 4000000 in
theorem left_any (W E T J : Int) (a a2 : Option Addr) (c c2 n n2 : Nat) (zs cs : List Int) (w : World) (r : Rds Nn w 1 a n (ints zs)) (r2 : Rds Nn w 1 a2 n2 (ints cs)) (hn : n = zs.length) (hn2 : n2 = cs.length) (hl : n ≤ maxLen) (hl2 : n2 ≤ 1000000) : Calls Try.prog 29 #[.agg #[.int .i64 W, .int .i64 E, .int .i64 T, .int .i64 J, .slice a n c], .slice a2 n2 c2] w (LfPost W E T J zs cs w) := by
  have RR := hid r
  have R2 := hid r2
  have HN2 := hid hn2
  have HN := hid hn
  clear r r2 hn hn2
  have D0 := hid (Blk.at_new w (b := w.heap.size) (t := 32) (cs := #[.int .i64 W, .int .i64 E, .int .i64 T, .int .i64 J, .slice a n c]) rfl)
  have B0 := hid ((Below.refl w.heap.size w).alloc (Nat.le_refl _) (.cells #[.int .i64 W, .int .i64 E, .int .i64 T, .int .i64 J, .slice a n c] 32))
  go_enter Try.func29, Try.ntmps29
  go_wp2_with (refine wpList_load_blk2 (t := 32) rfl rfl rfl Try.underlying32 rfl (by kernel_rfl) D0.out ?_)
  refine (check_any W E T J a c n zs _ (RR.out.below B0.out) HN.out hl).mono ?_
  rintro e w1 ⟨rfl, hb⟩
  have D1 := hid (D0.out.below hb D0.out.lt)
  have B1 := hid (B0.out.trans (hb.mono B0.out.size))
  clear hb
  by_cases hz : chkErr W E T J zs = 0
  rotate_left
  · have hz2 : (chkErr W E T J zs != 0) = true := by simpa using hz
    have R : Hid (chkErr W E T J zs = ftErr W E T J zs cs) := hid (by unfold ftErr; rw [if_pos hz])
    have RV : Hid (0 = lfV W E T J zs cs) := hid (by unfold lfV; rw [← R.out, if_neg hz])
    clear hz
    go_wp2
    go_ret2
    unfold LfPost
    rw [← R.out, ← RV.out]
    exact ⟨rfl, B1.out⟩
  have HR := hid (dk_right (chk_ok hz).1)
  have R : Hid (fitErr W E T J zs cs = ftErr W E T J zs cs) := hid (by unfold ftErr; rw [if_neg (fun e => e hz)])
  have RV : Hid (rmL W E T J zs cs = lfV W E T J zs cs) := hid (by unfold lfV rmL; rw [R.out])
  rw [hz]
  clear hz
  go_wp2_with (refine wpList_load_blk2 (t := 32) rfl rfl rfl Try.underlying32 rfl (by kernel_rfl) D1.out ?_)
  refine (room_any W E T J a a2 c c2 n n2 zs cs _ (RR.out.below B1.out) (R2.out.below B1.out) HN.out HN2.out hl hl2 HR.out).mono ?_
  rintro e w2 ⟨rfl, hb⟩
  have B2 := hid (B1.out.trans (hb.mono B1.out.size))
  clear hb
  go_wp2
  go_ret2
  unfold LfPost
  rw [← R.out, ← RV.out]
  exact ⟨rfl, B2.out⟩
end Go.Proofs.Ytccgbojcghbdcaa
