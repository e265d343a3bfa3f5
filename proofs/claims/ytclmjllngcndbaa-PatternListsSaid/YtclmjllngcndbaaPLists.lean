/- PatternLists: for every input the law returns true. No condition. -/
import Derived.Test.YtclmjllngcndbaaPLight
namespace Go.Proofs.Ytclmjllngcndbaa
open Go.RowKit

set_option linter.unusedSimpArgs false in
set_option maxRecDepth 100000 in
set_option maxHeartbeats 8000000 in
theorem patternLists_in (W E T J : Int) (a : Option Addr) (c n : Nat) (zs : List Int) (w : World) (r : Rds Nn w 1 a n (ints zs)) (hn : n = zs.length) (hl : n ≤ maxLen) : Calls Try.prog 5 #[.agg #[.int .i64 W, .int .i64 E, .int .i64 T, .int .i64 J, .slice a n c]] w fun e w' => e = .returned (.bool true) ∧ Below w.heap.size w w' := by
  have RR := hid r
  have HN := hid hn
  clear r hn
  have D0 := hid (Blk.at_new w (b := w.heap.size) (t := 24) (cs := #[.int .i64 W, .int .i64 E, .int .i64 T, .int .i64 J, .slice a n c]) rfl)
  have B0 := hid ((Below.refl w.heap.size w).alloc (Nat.le_refl _) (.cells #[.int .i64 W, .int .i64 E, .int .i64 T, .int .i64 J, .slice a n c] 24))
  go_enter Try.func5, Try.ntmps5
  go_wp2_with (refine wpList_load_blk2 (t := 24) rfl rfl rfl Try.underlying24 rfl (by kernel_rfl) D0.out ?_)
  refine (light_any W E T J a c n _ hl).mono ?_
  rintro e w1 ⟨rfl, hb⟩
  have D1 := hid (D0.out.below hb D0.out.lt)
  have B1 := hid (B0.out.trans (hb.mono B0.out.size))
  clear hb
  by_cases hf : n ≤ 20
  rotate_left
  · rw [show decide (n ≤ 20) = false by simp; omega]
    clear hf
    go_wp2_with fail
    refine (awake_any _).mono ?_
    rintro e wz ⟨rfl, hb⟩
    go_wp2
    go_ret
    exact ⟨rfl, B1.out.trans (hb.mono B1.out.size)⟩
  rw [show decide (n ≤ 20) = true by simp; omega]
  go_wp2_with (refine wpList_load_blk2 (t := 24) rfl rfl rfl Try.underlying24 rfl (by kernel_rfl) D1.out ?_)
  refine (all1_any W E T J a c n zs _ (RR.out.below B1.out) HN.out hl).mono ?_
  rintro e w2 ⟨A, cap, vs, rfl, hr, hp, hb⟩
  have RU := hid hr
  have PU := hid hp
  have D2 := hid (D1.out.below hb D1.out.lt)
  have B2 := hid (B1.out.trans (hb.mono B1.out.size))
  clear hr hp hb
  go_wp2_with (refine wpList_load_blk2 (t := 24) rfl rfl rfl Try.underlying24 rfl (by kernel_rfl) D2.out ?_)
  refine (rall1_any W E T J a c n zs _ (RR.out.below B2.out) HN.out hl).mono ?_
  rintro e w3 ⟨A3, cap3, vs3, rfl, hr, hp, hb⟩
  have RV := hid hr
  have PV := hid hp
  have RU3 := hid (RU.out.below hb)
  have PU3 := hid (PU.out.below hb)
  have B3 := hid (B2.out.trans (hb.mono B2.out.size))
  have AL := hid (show (allV W E T J zs).length ≤ 1024 ∧ ∀ l ∈ allV W E T J zs, l.length ≤ 8 from by
    unfold allV
    split
    · rename_i hck
      exact ⟨(chk_ok hck).2, fun l hl => pat_lens (dk_right (chk_ok hck).1) hl⟩
    · simp)
  clear hr hp hb
  go_wp2_with fail
  refine (same38_any A A3 cap cap3 _ _ vs vs3 (allV W E T J zs) (allV W E T J zs) _ RU3.out RV.out PU3.out PV.out rfl rfl (by have := AL.out.1; omega) (fun l hl => by have := AL.out.2 l hl; omega)).mono ?_
  rintro e w4 ⟨rfl, hb⟩
  have B4 := hid (B3.out.trans (hb.mono B3.out.size))
  clear hb
  rw [show decide (allV W E T J zs = allV W E T J zs) = true by simp]
  go_wp2_with fail
  refine (awake_any _).mono ?_
  rintro e wz ⟨rfl, hb⟩
  go_wp2
  go_ret
  exact ⟨rfl, B4.out.trans (hb.mono B4.out.size)⟩
theorem patternLists_walk (x0 : Int) (x1 : Int) (x2 : Int) (x3 : Int) (a4 : Option Addr) (c4 : Nat) (x4 : List Int) (w : World) (_h0 : (Lit.int .i64 x0).wf = true) (_h1 : (Lit.int .i64 x1).wf = true) (_h2 : (Lit.int .i64 x2).wf = true) (_h3 : (Lit.int .i64 x3).wf = true) (h4 : Rds Nn w 1 a4 x4.length (ints x4)) (g4 : x4.length ≤ c4 ∧ c4 ≤ maxLen ∧ (a4 = none → x4.length = 0 ∧ c4 = 0)) (_i4 : ∀ n ∈ x4, (Lit.int .i64 n).wf = true) :
    Calls Try.prog 5 #[.agg #[.int .i64 x0, .int .i64 x1, .int .i64 x2, .int .i64 x3, .slice a4 x4.length c4]] w fun e w' => e = .returned (.bool true) ∧ Below w.heap.size w w' := patternLists_in x0 x1 x2 x3 a4 c4 _ x4 w h4 rfl (Nat.le_trans g4.1 g4.2.1)
end Go.Proofs.Ytclmjllngcndbaa
