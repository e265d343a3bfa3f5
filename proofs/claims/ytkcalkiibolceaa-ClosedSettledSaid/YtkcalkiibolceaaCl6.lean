/- Closed loops: the reference's Same and near. -/
import Derived.Test.YtkcalkiibolceaaCl4
import Derived.Test.YtkcalkiibolceaaCl5
namespace Go.Proofs.Ytkcalkiibolceaa
open Go.RowKit

theorem below_drewN {B : Nat} {a w : World} (h : Below B a w) (n : Nat) : Below B a (w.drewN n) := ⟨h.os, h.tape, h.output, h.size, h.block⟩
theorem three_at {rows : List (List Int)} (h : ∀ r ∈ rows, r.length = 3) {k : Nat} (hk : k < rows.length) : ∃ a b c : Int, rows[k]? = some [a, b, c] ∧ (ints rows.flatten)[3 * k]? = some (.int .i64 a) ∧ (ints rows.flatten)[3 * k + 1]? = some (.int .i64 b) ∧ (ints rows.flatten)[3 * k + 2]? = some (.int .i64 c) := by
  have hg := flatten_get 3 (by decide) rows h
  have hr : rows[k]? = some rows[k] := List.getElem?_eq_getElem hk
  have hm := h rows[k] (List.getElem_mem hk)
  obtain ⟨s, v, u, e⟩ : ∃ s v u, rows[k] = [s, v, u] := by
    match hrk : rows[k], hm with
    | [s, v, u], _ => exact ⟨s, v, u, rfl⟩
  refine ⟨s, v, u, by rw [hr, e], ?_, ?_, ?_⟩
  · rw [ints_get, hg, show 3 * k / 3 = k by omega, hr, e, show 3 * k % 3 = 0 by omega]; rfl
  · rw [ints_get, hg, show (3 * k + 1) / 3 = k by omega, hr, e, show (3 * k + 1) % 3 = 1 by omega]; rfl
  · rw [ints_get, hg, show (3 * k + 2) / 3 = k by omega, hr, e, show (3 * k + 2) % 3 = 2 by omega]; rfl
set_option maxHeartbeats 4000000 in
theorem same_any (a1 a2 : Option Addr) (c1 c2 : Nat) (ra rb : List (List Int)) (w : World) (r1 : Rds Nn w 3 a1 ra.length (ints ra.flatten)) (r2 : Rds Nn w 3 a2 rb.length (ints rb.flatten)) (t1 : ∀ r ∈ ra, r.length = 3) (t2 : ∀ r ∈ rb, r.length = 3) (n1 : ra.length ≤ 1000000) : Calls Try.prog 18 #[.slice a1 ra.length c1, .slice a2 rb.length c2] w fun e w' => e = .returned (.bool (decide (ra = rb))) ∧ Below w.heap.size w w' := by
  have R1 := hid r1
  have R2 := hid r2
  have T1 := hid t1
  have T2 := hid t2
  clear r1 r2 t1 t2
  by_cases hl : ra.length = rb.length
  · have HL := hid hl
    go_enter Try.func18, Try.ntmps18
    go_wp2
    go_loopw [5] (fun i wr => ∃ k : Nat, k ≤ ra.length ∧ i = .int .i64 k ∧ ra.take k = rb.take k ∧ Below w.heap.size w wr) (fun i _ => ra.length - (intOf i).toNat)
    case atStart => exact ⟨0, Nat.zero_le _, rfl, rfl, Below.refl _ _⟩
    case round =>
      obtain ⟨k, hk, rfl, heq, hbel⟩ := hrel
      have BB := hid hbel
      have EQ := hid heq
      clear hbel heq
      by_cases hlt : k < ra.length
      · obtain ⟨p1, o1, rfl, hp1, _, hr1⟩ := Rds.plain R1.out (by omega) (by decide)
        obtain ⟨p2, o2, rfl, hp2, _, hr2⟩ := Rds.plain R2.out (by omega) (by decide)
        obtain ⟨x1, x2, x3, hx, hx1, hx2, hx3⟩ := three_at T1.out hlt
        obtain ⟨y1, y2, y3, hy, hy1, hy2, hy3⟩ := three_at T2.out (k := k) (by omega)
        have c1' : wr.cell? ⟨p1, o1 + k * 3, none⟩ = some (.int .i64 x1) := by
          rw [← hr1 _ _ hx1, Nat.mul_comm]; exact World.cell?_of_block (BB.out.block _ hp1)
        have c2' : wr.cell? ⟨p1, o1 + k * 3 + 1, none⟩ = some (.int .i64 x2) := by
          rw [← hr1 _ _ hx2, Nat.mul_comm]; exact World.cell?_of_block (BB.out.block _ hp1)
        have c3' : wr.cell? ⟨p1, o1 + k * 3 + 2, none⟩ = some (.int .i64 x3) := by
          rw [← hr1 _ _ hx3, Nat.mul_comm]; exact World.cell?_of_block (BB.out.block _ hp1)
        have d1' : wr.cell? ⟨p2, o2 + k * 3, none⟩ = some (.int .i64 y1) := by
          rw [← hr2 _ _ hy1, Nat.mul_comm]; exact World.cell?_of_block (BB.out.block _ hp2)
        have d2' : wr.cell? ⟨p2, o2 + k * 3 + 1, none⟩ = some (.int .i64 y2) := by
          rw [← hr2 _ _ hy2, Nat.mul_comm]; exact World.cell?_of_block (BB.out.block _ hp2)
        have d3' : wr.cell? ⟨p2, o2 + k * 3 + 2, none⟩ = some (.int .i64 y3) := by
          rw [← hr2 _ _ hy3, Nat.mul_comm]; exact World.cell?_of_block (BB.out.block _ hp2)
        have HX := hid hx
        have HY := hid hy
        clear hr1 hr2 hx hx1 hx2 hx3 hy hy1 hy2 hy3
        by_cases hxy : x1 = y1 ∧ x2 = y2 ∧ x3 = y3
        · obtain ⟨rfl, rfl, rfl⟩ := hxy
          go_wp2_with fail
          go_quiet (fail)
          go_wp2
          go_roundw
          case rel => exact ⟨k + 1, by omega, by go_num, by rw [List.take_add_one, List.take_add_one, EQ.out, HX.out, HY.out], below_drewN BB.out _⟩
          case measure => simp [intOf]; omega
        · have R : Hid (false = decide (ra = rb)) := hid (by
            simp
            intro h
            have h1 := HX.out
            rw [h, HY.out] at h1
            simp at h1
            omega)
          by_cases h1 : x1 = y1
          · subst h1
            by_cases h2 : x2 = y2
            · subst h2
              have h3 : ¬ x3 = y3 := fun h => hxy ⟨rfl, rfl, h⟩
              clear hxy
              go_wp2_with fail
              go_quiet (fail)
              go_wp2
              go_ret
              exact ⟨ret_b R.out, below_drewN BB.out _⟩
            · clear hxy
              go_wp2_with fail
              go_quiet (fail)
              go_wp2
              go_ret
              exact ⟨ret_b R.out, below_drewN BB.out _⟩
          · clear hxy
            go_wp2_with fail
            go_quiet (fail)
            go_wp2
            go_ret
            exact ⟨ret_b R.out, below_drewN BB.out _⟩
      · obtain rfl : k = ra.length := by omega
        have R : Hid (true = decide (ra = rb)) := hid (by
          have := EQ.out
          rw [List.take_of_length_le (Nat.le_refl _), List.take_of_length_le (by omega)] at this
          simp [this])
        go_wp2
        go_ret
        exact ⟨ret_b R.out, BB.out⟩
  · have R : Hid (false = decide (ra = rb)) := hid (by
      simp
      intro h
      exact hl (by rw [h]))
    go_enter Try.func18, Try.ntmps18
    go_wp2
    go_ret
    exact ⟨ret_b R.out, Below.refl _ _⟩
end Go.Proofs.Ytkcalkiibolceaa
