/- Chapter 28: trials. -/
import Derived.Test.YtfdblofpfpmbhaaLaw28
namespace Go.Proofs.Ytfdblofpfpmbhaa
open Go.RowKit

set_option linter.unusedSimpArgs false in
theorem small_any (oB oM vB vM : Int) (a1 a2 : Option Addr) (n1 n2 c1 c2 : Nat) (w : World) (h1 : n1 ≤ maxLen) (h2 : n2 ≤ maxLen) : Calls Try.prog 15 #[.agg #[.int .i64 oB, .int .i64 oM, .int .i64 vB, .int .i64 vM, .slice a1 n1 c1, .slice a2 n2 c2]] w fun e w' => e = .returned (.bool (decide (n1 ≤ 520) && decide (n2 ≤ 520))) ∧ Below w.heap.size w w' := by
  unfold maxLen at h1 h2
  have C := (Blk.at_new w (b := w.heap.size) (t := 45) (cs := #[.int .i64 oB, .int .i64 oM, .int .i64 vB, .int .i64 vM, .slice a1 n1 c1, .slice a2 n2 c2]) rfl).cell
  by_cases k1 : n1 ≤ 520
  all_goals by_cases k2 : n2 ≤ 520
  all_goals
    have R : Hid ((decide (n1 ≤ 520) && decide (n2 ≤ 520)) = (decide (n1 ≤ 520) && decide (n2 ≤ 520))) := hid rfl
    go_enter Try.func15, Try.ntmps15
    go_wp2
    go_ret
    refine ⟨ret_b ?_, (Below.refl _ _).alloc (Nat.le_refl _) _⟩
    first | (simp [k1, k2]; done) | (simp [k1, k2]; omega)
set_option maxHeartbeats 1000000 in
theorem start_any (oB oM vB vM : Int) (a1 a2 : Option Addr) (n1 n2 c1 c2 : Nat) (w : World) : Calls Try.prog 17 #[.agg #[.int .i64 oB, .int .i64 oM, .int .i64 vB, .int .i64 vM, .slice a1 n1 c1, .slice a2 n2 c2]] w fun e w' => e = .returned (.agg #[.int .i64 oB, .int .i64 oM, .int .i64 vB, .int .i64 vM]) ∧ Below w.heap.size w w' := by
  have W0 := hid (Blk.alloc (Blk.at_new w (b := w.heap.size) (t := 45) (cs := #[.int .i64 oB, .int .i64 oM, .int .i64 vB, .int .i64 vM, .slice a1 n1 c1, .slice a2 n2 c2]) rfl) (.cells #[.int .i64 0, .int .i64 0, .int .i64 0, .int .i64 0] 33))
  have X0 := hid (Blk.at_new (w.alloc (.cells #[.int .i64 oB, .int .i64 oM, .int .i64 vB, .int .i64 vM, .slice a1 n1 c1, .slice a2 n2 c2] 45)) (b := w.heap.size + 1) (t := 33) (cs := #[.int .i64 0, .int .i64 0, .int .i64 0, .int .i64 0]) (by simp))
  have B0 := hid (Below.alloc (Below.alloc (Below.refl w.heap.size w) (Nat.le_refl _) (.cells #[.int .i64 oB, .int .i64 oM, .int .i64 vB, .int .i64 vM, .slice a1 n1 c1, .slice a2 n2 c2] 45)) (by simp) (.cells #[.int .i64 0, .int .i64 0, .int .i64 0, .int .i64 0] 33))
  go_enter Try.func17, Try.ntmps17
  go_upto_region 1 with fail
  generalize ((w.alloc (.cells #[.int .i64 oB, .int .i64 oM, .int .i64 vB, .int .i64 vM, .slice a1 n1 c1, .slice a2 n2 c2] 45)).alloc (.cells #[.int .i64 0, .int .i64 0, .int .i64 0, .int .i64 0] 33)) = wa at W0 X0 B0 ⊢
  have cW := W0.out.cell
  go_wp2_with (refine wpList_store_blk2 (b := w.heap.size + 1) (t := 33) (e := 33) (cs0 := #[.int .i64 0, .int .i64 0, .int .i64 0, .int .i64 0]) (cs := #[.int .i64 oB, .int .i64 oM, .int .i64 vB, .int .i64 vM]) rfl rfl rfl rfl (by kernel_rfl) rfl (by simp [Value.oneCell']) X0.out ?_)
  refine bodyPost_ret (v := .agg #[.int .i64 oB, .int .i64 oM, .int .i64 vB, .int .i64 vM]) (results_cell rfl rfl (Blk.row X0.out _) Try.underlying33 rfl (by kernel_rfl)) rfl ?_
  exact ⟨rfl, Below.row B0.out (by omega) _⟩
end Go.Proofs.Ytfdblofpfpmbhaa
