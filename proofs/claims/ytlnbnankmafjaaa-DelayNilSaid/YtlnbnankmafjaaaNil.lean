/- The statement DelayNil, walked. -/
import Derived.Test.YtlnbnankmafjaaaLaw24
namespace Go.Proofs.Ytlnbnankmafjaaa
open Go.RowKit
theorem delayNil_walk (x0 : Int) (x1 : Int) (w : World) (_h0 : (Lit.int .i64 x0).wf = true) (_h1 : (Lit.int .i64 x1).wf = true) :
    Calls Try.prog 8 #[.int .i64 x0, .int .i64 x1] w fun e w' => e = .returned (.bool true) ∧ Below w.heap.size w w' := by
  by_cases hn : 0 ≤ x0 ∧ x0 ≤ 32
  · obtain ⟨i1, i2⟩ := hn
    go_enter Try.func8, Try.ntmps8
    go_wp2_with fail
    refine (push_nil x1 _).mono ?_
    rintro e w1 ⟨rfl, rfl⟩
    go_wp2_with fail
    refine (reset_nil x1 _).mono ?_
    rintro e w1 ⟨rfl, rfl⟩
    go_wp2_with fail
    refine (values_nil _).mono ?_
    rintro e w1 ⟨rfl, rfl⟩
    go_wp2_with fail
    refine (copy_nil _).mono ?_
    rintro e w1 ⟨rfl, rfl⟩
    go_wp2_with fail
    refine (new_any x0 x1 _ ⟨i1, i2⟩).mono ?_
    rintro e w1 ⟨b, v, rfl, _, _, hb⟩
    go_wp2_with fail
    refine (awake_any _).mono ?_
    rintro e w2 ⟨rfl, hb2⟩
    go_wp2
    go_ret
    exact ⟨rfl, hb.trans (hb2.mono hb.size)⟩
  · have hn' : x0 < 0 ∨ 32 < x0 := by omega
    have HN := hid hn'
    have hd : (decide (0 ≤ x0) && decide (x0 ≤ 32)) = false := by
      rcases hn' with h | h
      · simp; omega
      · simp; omega
    clear hn hn'
    rcases HN.out with h | h
    all_goals
      go_enter Try.func8, Try.ntmps8
      go_wp2_with fail
      refine (push_nil x1 _).mono ?_
      rintro e w1 ⟨rfl, rfl⟩
      go_wp2_with fail
      refine (reset_nil x1 _).mono ?_
      rintro e w1 ⟨rfl, rfl⟩
      go_wp2_with fail
      refine (values_nil _).mono ?_
      rintro e w1 ⟨rfl, rfl⟩
      go_wp2_with fail
      refine (copy_nil _).mono ?_
      rintro e w1 ⟨rfl, rfl⟩
      go_wp2_with fail
      refine (new_no x0 x1 _ HN.out).mono ?_
      rintro e w1 ⟨rfl, hb⟩
      go_wp2_with fail
      refine (awake_any _).mono ?_
      rintro e w2 ⟨rfl, hb2⟩
      go_wp2
      go_ret
      exact ⟨by first | rfl | (simp; omega), hb.trans (hb2.mono hb.size)⟩
end Go.Proofs.Ytlnbnankmafjaaa
