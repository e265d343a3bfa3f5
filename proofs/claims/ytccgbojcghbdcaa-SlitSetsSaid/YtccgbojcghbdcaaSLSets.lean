/- SlitSets: for every input the law returns true. No condition. -/
import Derived.Test.YtccgbojcghbdcaaLaw39
namespace Go.Proofs.Ytccgbojcghbdcaa
open Go.RowKit

theorem setL_len {W L U K : Int} {l : List (List Int)} : (setL W L l U K).length ≤ l.length := by
  unfold setL
  split
  · simp [setOf]
  · simp
theorem setL_run {W L U K : Int} {l : List (List Int)} : ∀ ch ∈ setL W L l U K, ch.2.2.2.length ≤ 1000000 := by
  unfold setL
  split
  · intro ch hc
    obtain ⟨s, _, rfl⟩ := List.mem_map.1 hc
    simp
  · intro ch hc; cases hc
set_option linter.unusedSimpArgs false in
set_option maxRecDepth 100000 in
set_option maxHeartbeats 16000000 in
theorem slitSets_in (W L : Int) (a : Option Addr) (c n : Nat) (l : List (List Int)) (U K : Int) (w : World) (r : Rds Nn w 2 a n (ints l.flatten)) (t : ∀ s ∈ l, s.length = 2) (hn : n = l.length) (hl : n ≤ maxLen) : Calls Try.prog 5 #[.agg #[.int .i64 W, .int .i64 L, .slice a n c, .int .i64 U, .int .i64 K]] w fun e w' => e = .returned (.bool true) ∧ Below w.heap.size w w' := by
  have R1 := hid r
  have T := hid t
  have HN := hid hn
  clear r t hn
  have D0 := hid (Blk.at_new w (b := w.heap.size) (t := 36) (cs := #[.int .i64 W, .int .i64 L, .slice a n c, .int .i64 U, .int .i64 K]) rfl)
  have B0 := hid ((Below.refl w.heap.size w).alloc (Nat.le_refl _) (.cells #[.int .i64 W, .int .i64 L, .slice a n c, .int .i64 U, .int .i64 K] 36))
  have c0 := D0.out.cell
  go_enter Try.func5, Try.ntmps5
  by_cases h20 : n ≤ 20
  rotate_left
  · have h21 : ((20 : Int) < n) := by omega
    go_wp2_with fail
    refine (awake_any _).mono ?_
    rintro e wz ⟨rfl, hb⟩
    go_wp2
    go_ret
    exact ⟨rfl, B0.out.trans (hb.mono B0.out.size)⟩
  have h21 : ¬ ((20 : Int) < n) := by omega
  go_wp2_with (refine wpList_load_blk2 (t := 36) rfl rfl rfl Try.underlying36 rfl (by kernel_rfl) D0.out ?_)
  refine (set39_any W L a c n l U K _ (R1.out.below B0.out) T.out HN.out hl).mono ?_
  rintro e w1 ⟨A1, c1, vs1, rfl, hr, hp, hb⟩
  have RA := hid hr
  have PA := hid hp
  have B1 := hid (B0.out.trans (hb.mono B0.out.size))
  have D1 := hid (D0.out.below hb D0.out.lt)
  clear hb hr hp c0
  have c1' := D1.out.cell
  go_wp2_with fail
  refine (rset_any W L a c n l U K _ (R1.out.below B1.out) T.out HN.out hl).mono ?_
  rintro e w2 ⟨A2, c2, vs2, rfl, hr, hp, hb⟩
  have RB := hid hr
  have PB := hid hp
  have Q2 := hid hb
  have B2 := hid (B1.out.trans (hb.mono B1.out.size))
  clear hb hr hp c1'
  go_wp2_with fail
  refine (children_any A1 A2 c1 c2 _ _ vs1 vs2 (setL W L l U K) (setL W L l U K) _ (RA.out.below Q2.out) (PA.out.below Q2.out) RB.out PB.out rfl rfl (by have := setL_len (W := W) (L := L) (U := U) (K := K) (l := l); have := HN.out; omega) setL_run).mono ?_
  rintro e w3 ⟨rfl, hb⟩
  have B3 := hid (B2.out.trans (hb.mono B2.out.size))
  clear hb
  go_wp2_with fail
  refine (awake_any _).mono ?_
  rintro e wz ⟨rfl, hb⟩
  go_wp2
  go_ret
  exact ⟨rfl, B3.out.trans (hb.mono B3.out.size)⟩
theorem slitSets_walk (x0 : Int) (x1 : Int) (a2 : Option Addr) (c2 : Nat) (x2 : List (List Int)) (x3 : Int) (x4 : Int) (w : World) (_h0 : (Lit.int .i64 x0).wf = true) (_h1 : (Lit.int .i64 x1).wf = true) (h2 : Rds Nn w 2 a2 x2.length (ints x2.flatten)) (g2 : x2.length ≤ c2 ∧ c2 ≤ maxLen ∧ (a2 = none → x2.length = 0 ∧ c2 = 0)) (i2 : ∀ r ∈ x2, r.length = 2 ∧ ∀ n ∈ r, (Lit.int .i64 n).wf = true) (_h3 : (Lit.int .i64 x3).wf = true) (_h4 : (Lit.int .i64 x4).wf = true) :
    Calls Try.prog 5 #[.agg #[.int .i64 x0, .int .i64 x1, .slice a2 x2.length c2, .int .i64 x3, .int .i64 x4]] w fun e w' => e = .returned (.bool true) ∧ Below w.heap.size w w' := by
  exact slitSets_in x0 x1 a2 c2 _ x2 x3 x4 w h2 (fun s hs => (i2 s hs).1) rfl (Nat.le_trans g2.1 g2.2.1)
end Go.Proofs.Ytccgbojcghbdcaa
