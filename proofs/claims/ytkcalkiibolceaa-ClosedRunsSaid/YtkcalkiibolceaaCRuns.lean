/- ClosedRuns. -/
import Derived.Test.YtkcalkiibolceaaLaw27
namespace Go.Proofs.Ytkcalkiibolceaa
open Go.RowKit

theorem rows_three (kp ki sh lo hi rate ga la de out v : Int) (sets dist : List Int) : ∀ r ∈ runRows kp ki sh lo hi rate ga la de out v sets dist, r.length = 3 := by
  intro r hr
  unfold runRows at hr
  split at hr
  · exact sims_three _ _ r hr
  · cases hr
theorem rows_len (kp ki sh lo hi rate ga la de out v : Int) (sets dist : List Int) (h : sets.length ≤ 600) : (runRows kp ki sh lo hi rate ga la de out v sets dist).length ≤ 1000000 := by
  unfold runRows
  split
  · rw [sims_len, List.length_zip]; omega
  · simp
set_option maxHeartbeats 4000000 in
theorem closedRuns_walk (x0 : Int) (x1 : Int) (x2 : Int) (x3 : Int) (x4 : Int) (x5 : Int) (x6 : Int) (x7 : Int) (x8 : Int) (x9 : Int) (x10 : Int) (a11 : Option Addr) (c11 : Nat) (x11 : List Int) (a12 : Option Addr) (c12 : Nat) (x12 : List Int) (w : World) (_h0 : (Lit.int .i64 x0).wf = true) (_h1 : (Lit.int .i64 x1).wf = true) (_h2 : (Lit.int .i64 x2).wf = true) (_h3 : (Lit.int .i64 x3).wf = true) (_h4 : (Lit.int .i64 x4).wf = true) (_h5 : (Lit.int .i64 x5).wf = true) (_h6 : (Lit.int .i64 x6).wf = true) (_h7 : (Lit.int .i64 x7).wf = true) (_h8 : (Lit.int .i64 x8).wf = true) (_h9 : (Lit.int .i64 x9).wf = true) (_h10 : (Lit.int .i64 x10).wf = true) (h11 : Rds Nn w 1 a11 x11.length (ints x11)) (g11 : x11.length ≤ c11 ∧ c11 ≤ maxLen ∧ (a11 = none → x11.length = 0 ∧ c11 = 0)) (_i11 : ∀ n ∈ x11, (Lit.int .i64 n).wf = true) (h12 : Rds Nn w 1 a12 x12.length (ints x12)) (g12 : x12.length ≤ c12 ∧ c12 ≤ maxLen ∧ (a12 = none → x12.length = 0 ∧ c12 = 0)) (_i12 : ∀ n ∈ x12, (Lit.int .i64 n).wf = true) :
    Calls Try.prog 4 #[.agg #[.int .i64 x0, .int .i64 x1, .int .i64 x2, .int .i64 x3, .int .i64 x4, .int .i64 x5, .int .i64 x6, .int .i64 x7, .int .i64 x8], .int .i64 x9, .int .i64 x10, .slice a11 x11.length c11, .slice a12 x12.length c12] w fun e w' => e = .returned (.bool true) ∧ Below w.heap.size w w' := by
  obtain ⟨ga1, gb1, _⟩ := g11
  obtain ⟨ga2, gb2, _⟩ := g12
  have R1 := hid h11
  have R2 := hid h12
  clear h11 h12
  by_cases hf : x11.length ≤ 600 ∧ x12.length ≤ 600
  rotate_left
  · have hf2 : (decide (x11.length ≤ 600) && decide (x12.length ≤ 600)) = false := by simp; omega
    have HF := hid hf2
    clear hf hf2
    go_enter Try.func4, Try.ntmps4
    go_wp2_with fail
    refine (few_any _ _ _ _ _ _ _ (by omega) (by omega)).mono ?_
    rintro e v8 ⟨rfl, rfl⟩
    rw [HF.out]
    go_wp2_with (go_at_call 14; refine (awake_any _).mono ?_; rintro e v9 ⟨rfl, hb⟩)
    go_ret
    exact ⟨rfl, ((Below.refl _ _).alloc (by simp <;> omega) _).trans (hb.mono (by simp <;> omega))⟩
  obtain ⟨hf1, hf2⟩ := hf
  have hf3 : (decide (x11.length ≤ 600) && decide (x12.length ≤ 600)) = true := by simp; omega
  have HF := hid hf3
  clear hf3
  go_enter Try.func4, Try.ntmps4
  go_wp2_with fail
  refine (few_any _ _ _ _ _ _ _ (by omega) (by omega)).mono ?_
  rintro e v8 ⟨rfl, rfl⟩
  rw [HF.out]
  have C0 : Hid (Blk (w.alloc (.cells #[.int .i64 x0, .int .i64 x1, .int .i64 x2, .int .i64 x3, .int .i64 x4, .int .i64 x5, .int .i64 x6, .int .i64 x7, .int .i64 x8] 27)) w.heap.size 27 #[.int .i64 x0, .int .i64 x1, .int .i64 x2, .int .i64 x3, .int .i64 x4, .int .i64 x5, .int .i64 x6, .int .i64 x7, .int .i64 x8]) := hid (Blk.at_new _ rfl)
  have cC := C0.out.cell
  have B0 := hid ((Below.refl w.heap.size w).alloc (Nat.le_refl _) (.cells #[.int .i64 x0, .int .i64 x1, .int .i64 x2, .int .i64 x3, .int .i64 x4, .int .i64 x5, .int .i64 x6, .int .i64 x7, .int .i64 x8] 27))
  have Q1 := hid (R1.out.below B0.out)
  have Q2 := hid (R2.out.below B0.out)
  go_wp2_with fail
  refine (run_any x0 x1 x2 x3 x4 x5 x6 x7 x8 _ _ _ _ _ _ x11 x12 _ Q1.out Q2.out (by omega)).mono ?_
  rintro e w1 ⟨u, rfl, hu, hb⟩
  obtain ⟨A, c, rfl, _, _⟩ := own_form hu
  have RU1 := hid (Rds.own hu (S := Nn) (fun _ _ => id))
  have C1 := hid (C0.out.below hb C0.out.lt)
  have B1 := hid (B0.out.trans (hb.mono B0.out.size))
  have Q11 := hid (Q1.out.below hb)
  have Q12 := hid (Q2.out.below hb)
  clear hu hb cC
  have cC := C1.out.cell
  go_wp2_with fail
  refine (rrun_any x0 x1 x2 x3 x4 x5 x6 x7 x8 _ _ _ _ _ _ x11 x12 _ Q11.out Q12.out (by omega)).mono ?_
  rintro e w2 ⟨u2, rfl, hu, hb⟩
  obtain ⟨A2, c2, rfl, _, _⟩ := own_form hu
  have RV2 := hid (Rds.own hu (S := Nn) (fun _ _ => id))
  have RU2 := hid (RU1.out.below hb)
  have B2 := hid (B1.out.trans (hb.mono B1.out.size))
  clear hu hb cC
  go_wp2_with fail
  refine (same_any _ _ _ _ _ _ _ RU2.out RV2.out (rows_three _ _ _ _ _ _ _ _ _ _ _ _ _) (rows_three _ _ _ _ _ _ _ _ _ _ _ _ _) (rows_len _ _ _ _ _ _ _ _ _ _ _ _ _ hf1)).mono ?_
  rintro e w3 ⟨rfl, hb⟩
  have B3 := hid (B2.out.trans (hb.mono B2.out.size))
  clear hb
  rw [show decide (runRows x0 x1 x2 x3 x4 x5 x6 x7 x8 x9 x10 x11 x12 = runRows x0 x1 x2 x3 x4 x5 x6 x7 x8 x9 x10 x11 x12) = true by simp]
  go_wp2_with (go_at_call 14; refine (awake_any _).mono ?_; rintro e v9 ⟨rfl, hb⟩)
  go_ret
  exact ⟨rfl, B3.out.trans (hb.mono B3.out.size)⟩
end Go.Proofs.Ytkcalkiibolceaa
