/- Chapter 38: what is light; lists that are greater. -/
import Derived.Test.YtclmjllngcndbaaLaw38
namespace Go.Proofs.Ytclmjllngcndbaa
open Go.RowKit

theorem light_any (W E T J : Int) (a : Option Addr) (c n : Nat) (w : World) (hl : n ≤ maxLen) : Calls Try.prog 10 #[.agg #[.int .i64 W, .int .i64 E, .int .i64 T, .int .i64 J, .slice a n c]] w fun e w' => e = .returned (.bool (decide (n ≤ 20))) ∧ Below w.heap.size w w' := by
  unfold maxLen at hl
  have C := (Blk.at_new w (b := w.heap.size) (t := 24) (cs := #[.int .i64 W, .int .i64 E, .int .i64 T, .int .i64 J, .slice a n c]) rfl).cell
  go_enter Try.func10, Try.ntmps10
  go_wp2
  go_ret
  exact ⟨ret_b (by simp; omega), (Below.refl _ _).alloc (Nat.le_refl _) _⟩
theorem gt_at : ∀ {x y : List Int}, gtL x y → ∃ (i : Nat) (p q : Int), x[i]? = some p ∧ y[i]? = some q ∧ q < p ∧ ∀ j, j < i → x[j]? = y[j]?
  | [], _, h => by simp [gtL] at h
  | _ :: _, [], h => by simp [gtL] at h
  | a :: x, b :: y, h => by
    rcases h with h | ⟨rfl, h⟩
    · exact ⟨0, a, b, rfl, rfl, h, fun j hj => by omega⟩
    · obtain ⟨i, p, q, h1, h2, h3, h4⟩ := gt_at h
      refine ⟨i + 1, p, q, by simpa using h1, by simpa using h2, h3, fun j hj => ?_⟩
      cases j with
      | zero => rfl
      | succ j => simpa using h4 j (by omega)
set_option maxRecDepth 100000 in
set_option maxHeartbeats 4000000 in
theorem greater_any (a1 a2 : Option Addr) (c1 c2 n1 n2 : Nat) (la lb : List Int) (w : World) (r1 : Rds Nn w 1 a1 n1 (ints la)) (r2 : Rds Nn w 1 a2 n2 (ints lb)) (h1 : n1 = la.length) (h2 : n2 = lb.length) (hl : n1 ≤ 1000000) (hg : gtL la lb) : Calls Try.prog 25 #[.slice a1 n1 c1, .slice a2 n2 c2] w fun e w' => e = .returned (.bool true) ∧ Below w.heap.size w w' := by
  obtain ⟨i, p, q, hp, hq, hpq, heq⟩ := gt_at hg
  have i1 : i < n1 := by rw [h1]; exact (List.getElem?_eq_some_iff.1 hp).1
  have i2 : i < n2 := by rw [h2]; exact (List.getElem?_eq_some_iff.1 hq).1
  have R1 := hid r1
  have R2 := hid r2
  have HP := hid hp
  have HQ := hid hq
  have EQ := hid heq
  clear r1 r2 hp hq heq hg h1 h2
  go_enter Try.func25, Try.ntmps25
  go_wp2
  go_loopw [5] (fun u wr => ∃ k : Nat, k ≤ i ∧ u = .int .i64 k ∧ Below w.heap.size w wr) (fun u _ => n1 - (intOf u).toNat)
  case atStart => exact ⟨0, Nat.zero_le _, rfl, Below.refl _ _⟩
  case round =>
    obtain ⟨k, hk, rfl, hbel⟩ := hrel
    have BB := hid hbel
    clear hbel
    have k1 : k < n1 := by omega
    have k2 : k < n2 := by omega
    obtain ⟨p1, o1, x, rfl, _, hx, hc1⟩ := num_at R1.out k1
    obtain ⟨p2, o2, y, rfl, _, hy, hc2⟩ := num_at R2.out k2
    have e1 := hc1 _ BB.out
    have e2 := hc2 _ BB.out
    by_cases hki : k = i
    · subst hki
      have hxp := hx.symm.trans HP.out
      have hyq := hy.symm.trans HQ.out
      injection hxp with hxp
      injection hyq with hyq
      subst hxp hyq
      have hne : ¬ x = y := by omega
      have E1 := hid hc1
      have E2 := hid hc2
      clear hc1 hc2 hx hy
      go_wp2_with fail
      go_quiet (fail)
      have f1 := fun q => E1.out _ (below_drewN BB.out q)
      have f2 := fun q => E2.out _ (below_drewN BB.out q)
      go_wp2_with fail
      go_quiet (fail)
      go_wp2
      go_ret
      exact ⟨ret_b (by simp <;> omega), below_drewN (below_drewN BB.out _) _⟩
    · have hxy := EQ.out k (by omega)
      rw [hx, hy] at hxy
      injection hxy with hxy
      subst hxy
      clear hc1 hc2 hx hy
      go_wp2_with fail
      go_quiet (fail)
      go_wp2
      go_roundw
      case rel => exact ⟨k + 1, by omega, by go_num, below_drewN BB.out _⟩
      case measure => simp [intOf]; omega
end Go.Proofs.Ytclmjllngcndbaa
