/- SlitStrips: for every input the law returns true. No condition. -/
import Derived.Test.YtccgbojcghbdcaaLaw39
import Derived.Test.YtccgbojcghbdcaaSPlain
namespace Go.Proofs.Ytccgbojcghbdcaa
open Go.RowKit

theorem stripL_two (W E T J : Int) (zs cs : List Int) : ∀ s ∈ stripL W E T J zs cs, s.length = 2 := by
  unfold stripL
  split
  · exact strips_two cs zs E
  · intro s hs; cases hs
theorem stripL_len {W E T J : Int} {zs cs : List Int} : (stripL W E T J zs cs).length ≤ 1000000 := by
  unfold stripL
  split
  · rename_i h
    obtain ⟨hc, hf⟩ := ft_ok h
    have k := (dk_right (chk_ok hc).1).k
    have f := fit_ok hf
    have := strips_len cs zs E f.2.1 f.1
    omega
  · simp
set_option linter.unusedSimpArgs false in
set_option maxRecDepth 100000 in
set_option maxHeartbeats 16000000 in
theorem slitStrips_in (W E T J : Int) (a a2 : Option Addr) (c c2 n n2 : Nat) (zs cs : List Int) (w : World) (r : Rds Nn w 1 a n (ints zs)) (r2 : Rds Nn w 1 a2 n2 (ints cs)) (hn : n = zs.length) (hn2 : n2 = cs.length) (hl : n ≤ maxLen) : Calls Try.prog 4 #[.agg #[.int .i64 W, .int .i64 E, .int .i64 T, .int .i64 J, .slice a n c], .slice a2 n2 c2] w fun e w' => e = .returned (.bool true) ∧ Below w.heap.size w w' := by
  have R1 := hid r
  have R2 := hid r2
  have HN := hid hn
  have HM := hid hn2
  clear r r2 hn hn2
  have D0 := hid (Blk.at_new w (b := w.heap.size) (t := 32) (cs := #[.int .i64 W, .int .i64 E, .int .i64 T, .int .i64 J, .slice a n c]) rfl)
  have B0 := hid ((Below.refl w.heap.size w).alloc (Nat.le_refl _) (.cells #[.int .i64 W, .int .i64 E, .int .i64 T, .int .i64 J, .slice a n c] 32))
  have c0 := D0.out.cell
  go_enter Try.func4, Try.ntmps4
  by_cases h12 : n ≤ 12
  rotate_left
  · have h21 : ((12 : Int) < n) := by omega
    go_wp2_with fail
    refine (awake_any _).mono ?_
    rintro e wz ⟨rfl, hb⟩
    go_wp2
    go_ret
    exact ⟨rfl, B0.out.trans (hb.mono B0.out.size)⟩
  have h21 : ¬ ((12 : Int) < n) := by omega
  by_cases h13 : n2 ≤ 12
  rotate_left
  · have h22 : ((12 : Int) < n2) := by omega
    go_wp2_with fail
    refine (awake_any _).mono ?_
    rintro e wz ⟨rfl, hb⟩
    go_wp2
    go_ret
    exact ⟨rfl, B0.out.trans (hb.mono B0.out.size)⟩
  have h22 : ¬ ((12 : Int) < n2) := by omega
  go_wp2_with (refine wpList_load_blk2 (t := 32) rfl rfl rfl Try.underlying32 rfl (by kernel_rfl) D0.out ?_)
  refine (strips_any W E T J a a2 c c2 n n2 zs cs _ (R1.out.below B0.out) (R2.out.below B0.out) HN.out HM.out hl (by omega)).mono ?_
  rintro e w1 ⟨A1, c1, rfl, hr, hb⟩
  have RA := hid hr
  have B1 := hid (B0.out.trans (hb.mono B0.out.size))
  have D1 := hid (D0.out.below hb D0.out.lt)
  clear hb hr c0
  go_wp2_with (refine wpList_load_blk2 (t := 32) rfl rfl rfl Try.underlying32 rfl (by kernel_rfl) D1.out ?_)
  refine (rstrips_any W E T J a a2 c c2 n n2 zs cs _ (R1.out.below B1.out) (R2.out.below B1.out) HN.out HM.out hl (by omega)).mono ?_
  rintro e w2 ⟨A2, c2', rfl, hr, hb⟩
  have RB := hid hr
  have Q2 := hid hb
  have B2 := hid (B1.out.trans (hb.mono B1.out.size))
  clear hb hr
  go_wp2_with fail
  refine (same2_any A1 A2 c1 c2' _ _ (stripL W E T J zs cs) (stripL W E T J zs cs) _ (RA.out.below Q2.out) RB.out (stripL_two W E T J zs cs) (stripL_two W E T J zs cs) rfl rfl stripL_len).mono ?_
  rintro e w3 ⟨rfl, hb⟩
  have B3 := hid (B2.out.trans (hb.mono B2.out.size))
  clear hb
  go_wp2_with fail
  refine (awake_any _).mono ?_
  rintro e wz ⟨rfl, hb⟩
  go_wp2
  go_ret
  exact ⟨rfl, B3.out.trans (hb.mono B3.out.size)⟩
theorem slitStrips_walk (x0 : Int) (x1 : Int) (x2 : Int) (x3 : Int) (a4 : Option Addr) (c4 : Nat) (x4 : List Int) (a5 : Option Addr) (c5 : Nat) (x5 : List Int) (w : World) (_h0 : (Lit.int .i64 x0).wf = true) (_h1 : (Lit.int .i64 x1).wf = true) (_h2 : (Lit.int .i64 x2).wf = true) (_h3 : (Lit.int .i64 x3).wf = true) (h4 : Rds Nn w 1 a4 x4.length (ints x4)) (g4 : x4.length ≤ c4 ∧ c4 ≤ maxLen ∧ (a4 = none → x4.length = 0 ∧ c4 = 0)) (_i4 : ∀ n ∈ x4, (Lit.int .i64 n).wf = true) (h5 : Rds Nn w 1 a5 x5.length (ints x5)) (_g5 : x5.length ≤ c5 ∧ c5 ≤ maxLen ∧ (a5 = none → x5.length = 0 ∧ c5 = 0)) (_i5 : ∀ n ∈ x5, (Lit.int .i64 n).wf = true) :
    Calls Try.prog 4 #[.agg #[.int .i64 x0, .int .i64 x1, .int .i64 x2, .int .i64 x3, .slice a4 x4.length c4], .slice a5 x5.length c5] w fun e w' => e = .returned (.bool true) ∧ Below w.heap.size w w' := by
  exact slitStrips_in x0 x1 x2 x3 a4 a5 c4 c5 _ _ x4 x5 w h4 h5 rfl rfl (Nat.le_trans g4.1 g4.2.1)
end Go.Proofs.Ytccgbojcghbdcaa
