/- PatternIndexes: for every input the law returns true. No condition. -/
import Derived.Test.YtclmjllngcndbaaPLight
namespace Go.Proofs.Ytclmjllngcndbaa
open Go.RowKit

set_option linter.unusedSimpArgs false in
set_option maxRecDepth 100000 in
set_option maxHeartbeats 8000000 in
theorem patternIndexes_in (W E T J : Int) (a a2 : Option Addr) (c c2 n n2 : Nat) (zs cs : List Int) (w : World) (r : Rds Nn w 1 a n (ints zs)) (r2 : Rds Nn w 1 a2 n2 (ints cs)) (hn : n = zs.length) (hn2 : n2 = cs.length) (hl : n ≤ maxLen) (hl2 : n2 ≤ maxLen) : Calls Try.prog 6 #[.agg #[.int .i64 W, .int .i64 E, .int .i64 T, .int .i64 J, .slice a n c], .slice a2 n2 c2] w fun e w' => e = .returned (.bool true) ∧ Below w.heap.size w w' := by
  have RR := hid r
  have R2 := hid r2
  have HN2 := hid hn2
  have HN := hid hn
  clear r r2 hn hn2
  have D0 := hid (Blk.at_new w (b := w.heap.size) (t := 24) (cs := #[.int .i64 W, .int .i64 E, .int .i64 T, .int .i64 J, .slice a n c]) rfl)
  have B0 := hid ((Below.refl w.heap.size w).alloc (Nat.le_refl _) (.cells #[.int .i64 W, .int .i64 E, .int .i64 T, .int .i64 J, .slice a n c] 24))
  unfold maxLen at hl2
  go_enter Try.func6, Try.ntmps6
  go_wp2_with (refine wpList_load_blk2 (t := 24) rfl rfl rfl Try.underlying24 rfl (by kernel_rfl) D0.out ?_)
  refine (light_any W E T J a c n _ hl).mono ?_
  rintro e w1 ⟨rfl, hb⟩
  have D1 := hid (D0.out.below hb D0.out.lt)
  have B1 := hid (B0.out.trans (hb.mono B0.out.size))
  clear hb
  by_cases hf : n ≤ 20
  rotate_left
  · rw [show decide (n ≤ 20) = false by simp; omega]
    clear hf
    go_wp2_with fail
    refine (awake_any _).mono ?_
    rintro e wz ⟨rfl, hb⟩
    go_wp2
    go_ret
    exact ⟨rfl, B1.out.trans (hb.mono B1.out.size)⟩
  rw [show decide (n ≤ 20) = true by simp; omega]
  by_cases hf2 : n2 ≤ 20
  rotate_left
  · clear hf
    go_wp2_with fail
    refine (awake_any _).mono ?_
    rintro e wz ⟨rfl, hb⟩
    go_wp2
    go_ret
    exact ⟨rfl, B1.out.trans (hb.mono B1.out.size)⟩
  go_wp2_with (refine wpList_load_blk2 (t := 24) rfl rfl rfl Try.underlying24 rfl (by kernel_rfl) D1.out ?_)
  refine (index_any W E T J a a2 c c2 n n2 zs cs _ (RR.out.below B1.out) (R2.out.below B1.out) HN.out HN2.out hl (by omega)).mono ?_
  rintro e w2 ⟨x, rfl, hx, hx0, hb⟩
  have D2 := hid (D1.out.below hb D1.out.lt)
  have B2 := hid (B1.out.trans (hb.mono B1.out.size))
  clear hb
  go_wp2_with (refine wpList_load_blk2 (t := 24) rfl rfl rfl Try.underlying24 rfl (by kernel_rfl) D2.out ?_)
  refine (rindex_any W E T J a a2 c c2 n n2 zs cs _ (RR.out.below B2.out) (R2.out.below B2.out) HN.out HN2.out hl (by omega)).mono ?_
  rintro e w3 ⟨y, rfl, hy, hy0, hb⟩
  have B3 := hid (B2.out.trans (hb.mono B2.out.size))
  have D3 := hid (D2.out.below hb D2.out.lt)
  clear hb
  have hxy : x = y := by
    by_cases hz : ftErr W E T J zs cs = 0
    · obtain ⟨i, rfl, hi⟩ := hx hz
      obtain ⟨j, rfl, hj⟩ := hy hz
      rw [pats_at hi hj]
    · rw [hx0 hz, hy0 hz]
  subst hxy
  clear hx hx0 hy hy0
  go_wp2_with fail
  refine (awake_any _).mono ?_
  rintro e wz ⟨rfl, hb⟩
  go_wp2
  go_ret
  exact ⟨rfl, B3.out.trans (hb.mono B3.out.size)⟩
theorem patternIndexes_walk (x0 : Int) (x1 : Int) (x2 : Int) (x3 : Int) (a4 : Option Addr) (c4 : Nat) (x4 : List Int) (a5 : Option Addr) (c5 : Nat) (x5 : List Int) (w : World) (_h0 : (Lit.int .i64 x0).wf = true) (_h1 : (Lit.int .i64 x1).wf = true) (_h2 : (Lit.int .i64 x2).wf = true) (_h3 : (Lit.int .i64 x3).wf = true) (h4 : Rds Nn w 1 a4 x4.length (ints x4)) (g4 : x4.length ≤ c4 ∧ c4 ≤ maxLen ∧ (a4 = none → x4.length = 0 ∧ c4 = 0)) (_i4 : ∀ n ∈ x4, (Lit.int .i64 n).wf = true) (h5 : Rds Nn w 1 a5 x5.length (ints x5)) (g5 : x5.length ≤ c5 ∧ c5 ≤ maxLen ∧ (a5 = none → x5.length = 0 ∧ c5 = 0)) (_i5 : ∀ n ∈ x5, (Lit.int .i64 n).wf = true) :
    Calls Try.prog 6 #[.agg #[.int .i64 x0, .int .i64 x1, .int .i64 x2, .int .i64 x3, .slice a4 x4.length c4], .slice a5 x5.length c5] w fun e w' => e = .returned (.bool true) ∧ Below w.heap.size w w' := patternIndexes_in x0 x1 x2 x3 a4 a5 c4 c5 _ _ x4 x5 w h4 h5 rfl rfl (Nat.le_trans g4.1 g4.2.1) (Nat.le_trans g5.1 g5.2.1)
end Go.Proofs.Ytclmjllngcndbaa
