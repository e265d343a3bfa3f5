/- Chapter 32: short. -/
import Derived.Test.YtddphdkhaaolmaaLaw32
import Derived.Test.YtddphdkhaaolmaaHand
namespace Go.Proofs.Ytddphdkhaaolmaa
open Go.RowKit

def shortB (f t : GR) : Bool := decide (f.rn ≤ 20 ∧ t.rn ≤ 20 ∧ f.nm.size ≤ 100 ∧ t.nm.size ≤ 100)
set_option linter.unusedSimpArgs false in
set_option maxRecDepth 100000 in
set_option maxHeartbeats 16000000 in
theorem short_any (f t : GR) (H M S : Int) (w : World) (hn1 : f.rn ≤ maxLen ∧ f.nm.size ≤ maxLen) (hn2 : t.rn ≤ maxLen ∧ t.nm.size ≤ maxLen) : Calls Try.prog 10 #[.agg #[.string f.nm, .int .i64 f.bs, .int .i64 f.bt, .int .i64 f.mo, .int .i64 f.mt, .int .i64 f.ca, .slice f.ra f.rn f.rc, .int .i64 f.pr, .string t.nm, .int .i64 t.bs, .int .i64 t.bt, .int .i64 t.mo, .int .i64 t.mt, .int .i64 t.ca, .slice t.ra t.rn t.rc, .int .i64 t.pr, .int .i64 H, .int .i64 M, .int .i64 S]] w fun e w' => e = .returned (.bool (shortB f t)) ∧ Below w.heap.size w w' := by
  unfold maxLen at hn1 hn2
  obtain ⟨h1, h2⟩ := hn1
  obtain ⟨h3, h4⟩ := hn2
  have T0 := hid (Blk.at_new w (b := w.heap.size) (t := 36) (cs := #[.string f.nm, .int .i64 f.bs, .int .i64 f.bt, .int .i64 f.mo, .int .i64 f.mt, .int .i64 f.ca, .slice f.ra f.rn f.rc, .int .i64 f.pr, .string t.nm, .int .i64 t.bs, .int .i64 t.bt, .int .i64 t.mo, .int .i64 t.mt, .int .i64 t.ca, .slice t.ra t.rn t.rc, .int .i64 t.pr, .int .i64 H, .int .i64 M, .int .i64 S]) rfl)
  have B0 := hid ((Below.refl w.heap.size w).alloc (Nat.le_refl _) (.cells #[.string f.nm, .int .i64 f.bs, .int .i64 f.bt, .int .i64 f.mo, .int .i64 f.mt, .int .i64 f.ca, .slice f.ra f.rn f.rc, .int .i64 f.pr, .string t.nm, .int .i64 t.bs, .int .i64 t.bt, .int .i64 t.mo, .int .i64 t.mt, .int .i64 t.ca, .slice t.ra t.rn t.rc, .int .i64 t.pr, .int .i64 H, .int .i64 M, .int .i64 S] 36))
  have c0 := T0.out.cell
  obtain ⟨R, hR⟩ : ∃ R, shortB f t = R := ⟨_, rfl⟩
  rw [hR]
  have HR := hid hR
  clear hR
  by_cases k1 : f.rn ≤ 20
  rotate_left
  · obtain rfl : false = R := (decide_eq_false (by omega)).symm.trans HR.out
    have g1 : ¬ (((f.rn : Nat) : Int) ≤ 20) := by omega
    go_enter Try.func10, Try.ntmps10
    go_wp2
    go_ret
    first | exact ⟨rfl, B0.out⟩ | exact ⟨ret_b (by simp <;> omega), B0.out⟩
  have g1 : (((f.rn : Nat) : Int) ≤ 20) := by omega
  by_cases k2 : t.rn ≤ 20
  rotate_left
  · obtain rfl : false = R := (decide_eq_false (by omega)).symm.trans HR.out
    have g2 : ¬ (((t.rn : Nat) : Int) ≤ 20) := by omega
    go_enter Try.func10, Try.ntmps10
    go_wp2
    go_ret
    first | exact ⟨rfl, B0.out⟩ | exact ⟨ret_b (by simp <;> omega), B0.out⟩
  have g2 : (((t.rn : Nat) : Int) ≤ 20) := by omega
  by_cases k3 : f.nm.size ≤ 100
  rotate_left
  · obtain rfl : false = R := (decide_eq_false (by omega)).symm.trans HR.out
    have g3 : ¬ (((f.nm.size : Nat) : Int) ≤ 100) := by omega
    go_enter Try.func10, Try.ntmps10
    go_wp2
    go_ret
    first | exact ⟨rfl, B0.out⟩ | exact ⟨ret_b (by simp <;> omega), B0.out⟩
  have g3 : (((f.nm.size : Nat) : Int) ≤ 100) := by omega
  by_cases k4 : t.nm.size ≤ 100
  rotate_left
  · obtain rfl : false = R := (decide_eq_false (by omega)).symm.trans HR.out
    have g4 : ¬ (((t.nm.size : Nat) : Int) ≤ 100) := by omega
    go_enter Try.func10, Try.ntmps10
    go_wp2
    go_ret
    first | exact ⟨rfl, B0.out⟩ | exact ⟨ret_b (by simp <;> omega), B0.out⟩
  have g4 : (((t.nm.size : Nat) : Int) ≤ 100) := by omega
  obtain rfl : true = R := (decide_eq_true (by omega)).symm.trans HR.out
  go_enter Try.func10, Try.ntmps10
  go_wp2
  go_ret
  first | exact ⟨rfl, B0.out⟩ | exact ⟨ret_b (by simp <;> omega), B0.out⟩
end Go.Proofs.Ytddphdkhaaolmaa
