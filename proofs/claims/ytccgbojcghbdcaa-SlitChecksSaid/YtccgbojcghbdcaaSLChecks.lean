/- SlitChecks: for every input the law returns true. No condition. -/
import Derived.Test.YtccgbojcghbdcaaLaw39
namespace Go.Proofs.Ytccgbojcghbdcaa
open Go.RowKit

theorem trimL_two (W : Int) (l : List (List Int)) : ∀ s ∈ trimL W l, s.length = 2 := by
  unfold trimL
  split
  · exact trims_two W l 0
  · intro s hs; cases hs
theorem trimL_len {W : Int} {l : List (List Int)} : (trimL W l).length ≤ l.length + 1 := by
  unfold trimL
  split
  · exact trims_len W l 0
  · simp
set_option linter.unusedSimpArgs false in
set_option maxRecDepth 100000 in
set_option maxHeartbeats 16000000 in
theorem slitChecks_in (W : Int) (a : Option Addr) (c n : Nat) (l : List (List Int)) (w : World) (r : Rds Nn w 2 a n (ints l.flatten)) (t : ∀ s ∈ l, s.length = 2) (hn : n = l.length) (hl : n ≤ maxLen) : Calls Try.prog 3 #[.int .i64 W, .slice a n c] w fun e w' => e = .returned (.bool true) ∧ Below w.heap.size w w' := by
  have R1 := hid r
  have T := hid t
  have HN := hid hn
  clear r t hn
  have B0 := hid (Below.refl w.heap.size w)
  go_enter Try.func3, Try.ntmps3
  by_cases h20 : n ≤ 20
  rotate_left
  · have h21 : ((20 : Int) < n) := by omega
    go_wp2_with fail
    refine (awake_any _).mono ?_
    rintro e wz ⟨rfl, hb⟩
    go_wp2
    go_ret
    exact ⟨rfl, B0.out.trans (hb.mono B0.out.size)⟩
  have h21 : ¬ ((20 : Int) < n) := by omega
  go_wp2_with fail
  refine (trim_any W a c n l _ R1.out T.out HN.out hl).mono ?_
  rintro e w1 ⟨A1, c1, rfl, hr, hb⟩
  have RA := hid hr
  have B1 := hid (B0.out.trans (hb.mono B0.out.size))
  clear hb hr
  go_wp2_with fail
  refine (rtrim_any W a c n l _ (R1.out.below B1.out) T.out HN.out hl).mono ?_
  rintro e w2 ⟨A2, c2, rfl, hr, hb⟩
  have RB := hid hr
  have Q2 := hid hb
  have B2 := hid (B1.out.trans (hb.mono B1.out.size))
  have Q := hid (Below.refl w2.heap.size w2)
  clear hb hr
  go_wp2_with fail
  refine (scheck_any W a c n l _ (R1.out.below B2.out) T.out HN.out hl).mono ?_
  rintro e w3 ⟨rfl, hb⟩
  have B3 := hid (B2.out.trans (hb.mono B2.out.size))
  have Q3 := hid hb
  clear hb
  go_wp2_with fail
  refine (rscheck_any W a c n l _ (R1.out.below B3.out) T.out HN.out hl).mono ?_
  rintro e w4 ⟨rfl, hb⟩
  have B4 := hid (B3.out.trans (hb.mono B3.out.size))
  have Q4 := hid (Q3.out.trans (hb.mono Q3.out.size))
  clear hb
  go_wp2_with fail
  refine (same2_any A1 A2 c1 c2 _ _ (trimL W l) (trimL W l) _ (RA.out.below (Q2.out.trans (Q4.out.mono Q2.out.size))) (RB.out.below Q4.out) (trimL_two W l) (trimL_two W l) rfl rfl (by have := trimL_len (W := W) (l := l); have := HN.out; omega)).mono ?_
  rintro e w5 ⟨rfl, hb⟩
  have B5 := hid (B4.out.trans (hb.mono B4.out.size))
  clear hb
  go_wp2_with fail
  refine (awake_any _).mono ?_
  rintro e wz ⟨rfl, hb⟩
  go_wp2
  go_ret
  exact ⟨rfl, B5.out.trans (hb.mono B5.out.size)⟩
theorem slitChecks_walk (x0 : Int) (a1 : Option Addr) (c1 : Nat) (x1 : List (List Int)) (w : World) (_h0 : (Lit.int .i64 x0).wf = true) (h1 : Rds Nn w 2 a1 x1.length (ints x1.flatten)) (g1 : x1.length ≤ c1 ∧ c1 ≤ maxLen ∧ (a1 = none → x1.length = 0 ∧ c1 = 0)) (i1 : ∀ r ∈ x1, r.length = 2 ∧ ∀ n ∈ r, (Lit.int .i64 n).wf = true) :
    Calls Try.prog 3 #[.int .i64 x0, .slice a1 x1.length c1] w fun e w' => e = .returned (.bool true) ∧ Below w.heap.size w w' := by
  exact slitChecks_in x0 a1 c1 _ x1 w h1 (fun s hs => (i1 s hs).1) rfl (Nat.le_trans g1.1 g1.2.1)
end Go.Proofs.Ytccgbojcghbdcaa
