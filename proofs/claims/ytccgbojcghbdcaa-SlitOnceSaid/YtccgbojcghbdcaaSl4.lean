/- Chapter 39: maps of runs: Check, lengths, Same. -/
import Derived.Test.YtccgbojcghbdcaaRun
import Derived.Test.YtccgbojcghbdcaaSPn2
namespace Go.Proofs.Ytccgbojcghbdcaa
open Go.RowKit

set_option linter.unusedSimpArgs false in
set_option maxRecDepth 100000 in
set_option maxHeartbeats 4000000 in
theorem good_any (x y : Int) (b : Bool) (w : World) : Calls Try.prog 49 #[.agg #[.int .i64 x, .int .i64 y, .bool b]] w fun e w' => e = .returned (.bool (runOk (x, y, b))) ∧ Below w.heap.size w w' := by
  have C := (Blk.at_new w (b := w.heap.size) (t := 69) (cs := #[.int .i64 x, .int .i64 y, .bool b]) rfl).cell
  obtain ⟨R, hR⟩ : ∃ R, runOk (x, y, b) = R := ⟨_, rfl⟩
  rw [hR]
  cases R with
  | false =>
    rcases run_no hR with h | ⟨h, h1⟩ | ⟨h, h1⟩ | ⟨h, h1, h2⟩ | ⟨⟨h, h1, h2⟩, ⟨rfl, h3⟩ | ⟨rfl, h3⟩⟩
    all_goals clear hR
    rotate_left 4
    · have w1 : IntKind.i64.wrap (x - y) = x - y := IntWalk.i64_in _ (by omega)
      have w2 : IntKind.i64.wrap (x - y + 1) = x - y + 1 := IntWalk.i64_in _ (by omega)
      go_enter Try.func49, Try.ntmps49
      go_wp2
      go_ret
      exact ⟨ret_b (by simp <;> omega), (Below.refl _ _).alloc (Nat.le_refl _) _⟩
    · have w1 : IntKind.i64.wrap (x + y) = x + y := IntWalk.i64_in _ (by omega)
      go_enter Try.func49, Try.ntmps49
      go_wp2
      go_ret
      exact ⟨ret_b (by simp <;> omega), (Below.refl _ _).alloc (Nat.le_refl _) _⟩
    all_goals
      go_enter Try.func49, Try.ntmps49
      go_wp2
      go_ret
      exact ⟨rfl, (Below.refl _ _).alloc (Nat.le_refl _) _⟩
  | true =>
    obtain ⟨h1, h2, h3, h4⟩ := run_yes hR
    clear hR
    cases b with
    | true =>
      have h5 := h3 rfl
      have w1 : IntKind.i64.wrap (x - y) = x - y := IntWalk.i64_in _ (by omega)
      have w2 : IntKind.i64.wrap (x - y + 1) = x - y + 1 := IntWalk.i64_in _ (by omega)
      clear h3 h4
      go_enter Try.func49, Try.ntmps49
      go_wp2
      go_ret
      exact ⟨ret_b (by simp <;> omega), (Below.refl _ _).alloc (Nat.le_refl _) _⟩
    | false =>
      have h5 := h4 rfl
      have w1 : IntKind.i64.wrap (x + y) = x + y := IntWalk.i64_in _ (by omega)
      clear h3 h4
      go_enter Try.func49, Try.ntmps49
      go_wp2
      go_ret
      exact ⟨ret_b (by simp <;> omega), (Below.refl _ _).alloc (Nat.le_refl _) _⟩
set_option linter.unusedSimpArgs false in
set_option maxRecDepth 100000 in
set_option maxHeartbeats 4000000 in
theorem plen_any (a : Option Addr) (c n : Nat) (m : List Ru) (w : World) (r : Rds Nn w 3 a n (cellsR m)) (hn : n = m.length) (hg : n ≤ 256) (ho : ∀ r ∈ m, runOk r = true) : Calls Try.prog 51 #[.slice a n c] w fun e w' => e = .returned (.int .i64 (lenR m)) ∧ Below w.heap.size w w' := by
  have R1 := hid r
  have HN := hid hn
  clear r hn
  have HO := hid ho
  clear ho
  go_enter Try.func51, Try.ntmps51
  go_wp2
  go_loopw [3, 8] (fun s i wr => ∃ (k : Nat) (q : Int), k ≤ n ∧ i = .int .i64 k ∧ s = .int .i64 q ∧ q = lenR (m.take k) ∧ (0 ≤ q ∧ q ≤ k * 17179869184) ∧ Below w.heap.size w wr) (fun _ i _ => n - (intOf i).toNat)
  case atStart => exact ⟨0, 0, Nat.zero_le _, rfl, rfl, rfl, by omega, Below.refl _ _⟩
  case round =>
    obtain ⟨k, q, hk, rfl, rfl, hq, ⟨hq1, hq2⟩, hbel⟩ := hrel
    have HQ := hid hq
    have BB := hid hbel
    clear hq hbel
    by_cases hlt : k < n
    · obtain ⟨p1, o1, x, y, b, rfl, _, hx, hc⟩ := run_at R1.out HN.out hlt
      obtain ⟨e1, e2, e3⟩ := hc _ BB.out
      have GY := (run_yes (HO.out _ (List.mem_of_getElem? hx))).1
      have LS := hid (lenR_snoc hx)
      obtain ⟨g1, g2⟩ := GY
      have ws : IntKind.i64.wrap (q + y) = q + y := IntWalk.i64_in _ (by omega)
      clear hc hx
      go_wp2
      go_roundw
      case rel => exact ⟨k + 1, q + y, by omega, by go_num, by go_num, by rw [LS.out, ← HQ.out], by push_cast; omega, BB.out.alloc BB.out.size _⟩
      case measure => simp [intOf] <;> omega
    · obtain rfl : k = n := by omega
      have QE : Hid (q = lenR m) := hid (by rw [HQ.out, List.take_of_length_le (by rw [← HN.out]; exact Nat.le_refl _)])
      go_wp2
      go_ret
      exact ⟨ret_i QE.out, BB.out⟩
set_option linter.unusedSimpArgs false in
set_option maxRecDepth 100000 in
set_option maxHeartbeats 4000000 in
theorem rlen_any (a : Option Addr) (c n : Nat) (m : List Ru) (w : World) (r : Rds Nn w 3 a n (cellsR m)) (hn : n = m.length) (hg : n ≤ 256) (ho : ∀ r ∈ m, runOk r = true) : Calls Try.prog 50 #[.slice a n c] w fun e w' => e = .returned (.int .i64 (lenR m)) ∧ Below w.heap.size w w' := by
  have R1 := hid r
  have HN := hid hn
  clear r hn
  have HO := hid ho
  clear ho
  go_enter Try.func50, Try.ntmps50
  go_wp2
  go_loopw [3, 4] (fun s i wr => ∃ (k : Nat) (q : Int), k ≤ n ∧ i = .int .i64 k ∧ s = .int .i64 q ∧ q = lenR (m.take k) ∧ (0 ≤ q ∧ q ≤ k * 17179869184) ∧ Below w.heap.size w wr) (fun _ i _ => n - (intOf i).toNat)
  case atStart => exact ⟨0, 0, Nat.zero_le _, rfl, rfl, rfl, by omega, Below.refl _ _⟩
  case round =>
    obtain ⟨k, q, hk, rfl, rfl, hq, ⟨hq1, hq2⟩, hbel⟩ := hrel
    have HQ := hid hq
    have BB := hid hbel
    clear hq hbel
    by_cases hlt : k < n
    · obtain ⟨p1, o1, x, y, b, rfl, _, hx, hc⟩ := run_at R1.out HN.out hlt
      obtain ⟨e1, e2, e3⟩ := hc _ BB.out
      have GY := (run_yes (HO.out _ (List.mem_of_getElem? hx))).1
      have LS := hid (lenR_snoc hx)
      obtain ⟨g1, g2⟩ := GY
      have ws : IntKind.i64.wrap (q + y) = q + y := IntWalk.i64_in _ (by omega)
      clear hc hx
      go_wp2
      go_roundw
      case rel => exact ⟨k + 1, q + y, by omega, by go_num, by go_num, by rw [LS.out, ← HQ.out], by push_cast; omega, BB.out⟩
      case measure => simp [intOf] <;> omega
    · obtain rfl : k = n := by omega
      have QE : Hid (q = lenR m) := hid (by rw [HQ.out, List.take_of_length_le (by rw [← HN.out]; exact Nat.le_refl _)])
      go_wp2
      go_ret
      exact ⟨ret_i QE.out, BB.out⟩
set_option linter.unusedSimpArgs false in
set_option maxRecDepth 100000 in
set_option maxHeartbeats 4000000 in
theorem pcheckR_any (a : Option Addr) (c n : Nat) (m : List Ru) (w : World) (r : Rds Nn w 3 a n (cellsR m)) (hn : n = m.length) (hl : n ≤ maxLen) : Calls Try.prog 38 #[.slice a n c] w fun e w' => e = .returned (.int .i64 (runErr m)) ∧ Below w.heap.size w w' := by
  have R1 := hid r
  have HN := hid hn
  clear r hn
  unfold maxLen at hl
  by_cases hg : 256 < n
  · have R := hid (re_8 (m := m) (by rw [← HN.out]; exact hg))
    go_enter Try.func38, Try.ntmps38
    go_wp2
    go_ret
    exact ⟨ret_i R.out, Below.refl _ _⟩
  go_enter Try.func38, Try.ntmps38
  go_wp2
  go_loopw [3, 11] (fun s i wr => ∃ (k : Nat) (q : Int), k ≤ n ∧ i = .int .i64 k ∧ s = .int .i64 q ∧ q = lenR (m.take k) ∧ (0 ≤ q ∧ q ≤ k * 17179869184) ∧ (∀ (j : Nat) (r : Ru), j < k → m[j]? = some r → runOk r = true) ∧ Below w.heap.size w wr) (fun _ i _ => n - (intOf i).toNat)
  case atStart => exact ⟨0, 0, Nat.zero_le _, rfl, rfl, rfl, by omega, fun j r hj => by omega, Below.refl _ _⟩
  case round =>
    obtain ⟨k, q, hk, rfl, rfl, hq, ⟨hq1, hq2⟩, hall, hbel⟩ := hrel
    have HQ := hid hq
    have AL := hid hall
    have BB := hid hbel
    clear hq hbel hall
    by_cases hlt : k < n
    · obtain ⟨p1, o1, x, y, b, rfl, _, hx, hc⟩ := run_at R1.out HN.out hlt
      obtain ⟨e1, e2, e3⟩ := hc _ BB.out
      have HX := hid hx
      have LS := hid (lenR_snoc hx)
      clear hc hx
      obtain ⟨R, hR⟩ : ∃ R, runOk (x, y, b) = R := ⟨_, rfl⟩
      cases R with
      | false =>
        have R := hid (re_1 (m := m) (by rw [← HN.out]; omega) (List.mem_of_getElem? HX.out) hR)
        rcases run_no hR with h | ⟨h, h1⟩ | ⟨h, h1⟩ | ⟨h, h1, h2⟩ | ⟨⟨h, h1, h2⟩, ⟨rfl, h3⟩ | ⟨rfl, h3⟩⟩
        all_goals clear hR
        rotate_left 4
        · have w1 : IntKind.i64.wrap (x - y) = x - y := IntWalk.i64_in _ (by omega)
          have w2 : IntKind.i64.wrap (x - y + 1) = x - y + 1 := IntWalk.i64_in _ (by omega)
          go_wp2
          go_ret
          exact ⟨ret_i R.out, BB.out.alloc BB.out.size _⟩
        · have w1 : IntKind.i64.wrap (x + y) = x + y := IntWalk.i64_in _ (by omega)
          go_wp2
          go_ret
          exact ⟨ret_i R.out, BB.out.alloc BB.out.size _⟩
        all_goals
          go_wp2
          go_ret
          exact ⟨ret_i R.out, BB.out.alloc BB.out.size _⟩
      | true =>
        have OK := hid hR
        obtain ⟨⟨g1, g2⟩, ⟨g3, g4⟩, h3, h4⟩ := run_yes hR
        clear hR
        have ws : IntKind.i64.wrap (q + y) = q + y := IntWalk.i64_in _ (by omega)
        cases b with
        | true =>
          have h5 := h3 rfl
          have w1 : IntKind.i64.wrap (x - y) = x - y := IntWalk.i64_in _ (by omega)
          have w2 : IntKind.i64.wrap (x - y + 1) = x - y + 1 := IntWalk.i64_in _ (by omega)
          clear h3 h4
          go_wp2
          go_roundw
          case rel =>
            refine ⟨k + 1, q + y, by omega, by go_num, by go_num, by rw [LS.out, ← HQ.out], by push_cast; omega, fun j r hj hr => ?_, BB.out.alloc BB.out.size _⟩
            by_cases hjk : j = k
            · subst hjk
              rw [HX.out] at hr
              injection hr with hr
              subst hr
              exact OK.out
            · exact AL.out j r (by omega) hr
          case measure => simp [intOf] <;> omega
        | false =>
          have h5 := h4 rfl
          have w1 : IntKind.i64.wrap (x + y) = x + y := IntWalk.i64_in _ (by omega)
          clear h3 h4
          go_wp2
          go_roundw
          case rel =>
            refine ⟨k + 1, q + y, by omega, by go_num, by go_num, by rw [LS.out, ← HQ.out], by push_cast; omega, fun j r hj hr => ?_, BB.out.alloc BB.out.size _⟩
            by_cases hjk : j = k
            · subst hjk
              rw [HX.out] at hr
              injection hr with hr
              subst hr
              exact OK.out
            · exact AL.out j r (by omega) hr
          case measure => simp [intOf] <;> omega
    · obtain rfl : k = n := by omega
      have QE : Hid (q = lenR m) := hid (by rw [HQ.out, List.take_of_length_le (by rw [← HN.out]; exact Nat.le_refl _)])
      have OA : Hid (∀ r ∈ m, runOk r = true) := hid (fun r hr => by
        obtain ⟨j, hj⟩ := List.mem_iff_getElem?.1 hr
        exact AL.out j r (by rw [HN.out]; exact (List.getElem?_eq_some_iff.1 hj).1) hj)
      by_cases hb : 17179869184 < q
      · have R := hid (re_21 (m := m) (by rw [← HN.out]; omega) OA.out (by rw [← QE.out]; exact hb))
        go_wp2
        go_ret
        exact ⟨ret_i R.out, BB.out⟩
      · have R := hid (re_0 (m := m) (by rw [← HN.out]; omega) OA.out (by rw [← QE.out]; omega))
        go_wp2
        go_ret
        exact ⟨ret_i R.out, BB.out⟩
set_option linter.unusedSimpArgs false in
set_option maxRecDepth 100000 in
set_option maxHeartbeats 4000000 in
theorem rcheckR_any (a : Option Addr) (c n : Nat) (m : List Ru) (w : World) (r : Rds Nn w 3 a n (cellsR m)) (hn : n = m.length) (hl : n ≤ maxLen) : Calls Try.prog 40 #[.slice a n c] w fun e w' => e = .returned (.int .i64 (runErr m)) ∧ Below w.heap.size w w' := by
  have R1 := hid r
  have HN := hid hn
  clear r hn
  unfold maxLen at hl
  by_cases hg : 256 < n
  · have R := hid (re_8 (m := m) (by rw [← HN.out]; exact hg))
    go_enter Try.func40, Try.ntmps40
    go_wp2
    go_ret
    exact ⟨ret_i R.out, Below.refl _ _⟩
  go_enter Try.func40, Try.ntmps40
  go_wp2
  go_loopw [3] (fun i wr => ∃ (k : Nat), k ≤ n ∧ i = .int .i64 k ∧ (∀ (j : Nat) (r : Ru), j < k → m[j]? = some r → runOk r = true) ∧ Below w.heap.size w wr) (fun i _ => n - (intOf i).toNat)
  case atStart => exact ⟨0, Nat.zero_le _, rfl, fun j r hj => by omega, Below.refl _ _⟩
  case round =>
    obtain ⟨k, hk, rfl, hall, hbel⟩ := hrel
    have AL := hid hall
    have BB := hid hbel
    clear hbel hall
    by_cases hlt : k < n
    · obtain ⟨p1, o1, x, y, b, rfl, _, hx, hc⟩ := run_at R1.out HN.out hlt
      obtain ⟨e1, e2, e3⟩ := hc _ BB.out
      have HX := hid hx
      clear hc hx
      go_wp2_with fail
      refine (good_any x y b _).mono ?_
      rintro e w5 ⟨rfl, hb⟩
      have B5 := hid (BB.out.trans (hb.mono BB.out.size))
      clear hb e1 e2 e3
      obtain ⟨R, hR⟩ : ∃ R, runOk (x, y, b) = R := ⟨_, rfl⟩
      rw [hR]
      cases R with
      | false =>
        have R := hid (re_1 (m := m) (by rw [← HN.out]; omega) (List.mem_of_getElem? HX.out) hR)
        clear hR
        go_wp2
        go_ret
        exact ⟨ret_i R.out, B5.out⟩
      | true =>
        have OK := hid hR
        clear hR
        go_wp2
        go_roundw
        case rel =>
          refine ⟨k + 1, by omega, by go_num, fun j r hj hr => ?_, B5.out⟩
          by_cases hjk : j = k
          · subst hjk
            rw [HX.out] at hr
            injection hr with hr
            subst hr
            exact OK.out
          · exact AL.out j r (by omega) hr
        case measure => simp [intOf] <;> omega
    · obtain rfl : k = n := by omega
      have OA : Hid (∀ r ∈ m, runOk r = true) := hid (fun r hr => by
        obtain ⟨j, hj⟩ := List.mem_iff_getElem?.1 hr
        exact AL.out j r (by rw [HN.out]; exact (List.getElem?_eq_some_iff.1 hj).1) hj)
      go_wp2_with fail
      refine (rlen_any a c k m _ (R1.out.below BB.out) HN.out (by omega) OA.out).mono ?_
      rintro e w5 ⟨rfl, hb⟩
      have B5 := hid (BB.out.trans (hb.mono BB.out.size))
      clear hb
      by_cases hb : 17179869184 < lenR m
      · have R := hid (re_21 (m := m) (by rw [← HN.out]; omega) OA.out hb)
        go_wp2
        go_ret
        exact ⟨ret_i R.out, B5.out⟩
      · have R := hid (re_0 (m := m) (by rw [← HN.out]; omega) OA.out (by omega))
        go_wp2
        go_ret
        exact ⟨ret_i R.out, B5.out⟩
set_option linter.unusedSimpArgs false in
set_option maxRecDepth 100000 in
set_option maxHeartbeats 4000000 in
theorem same3_any (a1 a2 : Option Addr) (c1 c2 n1 n2 : Nat) (ra rb : List Ru) (w : World) (r1 : Rds Nn w 3 a1 n1 (cellsR ra)) (r2 : Rds Nn w 3 a2 n2 (cellsR rb)) (e1 : n1 = ra.length) (e2 : n2 = rb.length) (hn : n1 ≤ 1000000) : Calls Try.prog 28 #[.slice a1 n1 c1, .slice a2 n2 c2] w fun e w' => e = .returned (.bool (decide (ra = rb))) ∧ Below w.heap.size w w' := by
  subst e1 e2
  have R1 := hid r1
  have R2 := hid r2
  clear r1 r2
  by_cases hl : ra.length = rb.length
  · have HL := hid hl
    go_enter Try.func28, Try.ntmps28
    go_wp2
    go_loopw [5] (fun i wr => ∃ k : Nat, k ≤ ra.length ∧ i = .int .i64 k ∧ ra.take k = rb.take k ∧ Below w.heap.size w wr) (fun i _ => ra.length - (intOf i).toNat)
    case atStart => exact ⟨0, Nat.zero_le _, rfl, rfl, Below.refl _ _⟩
    case round =>
      obtain ⟨k, hk, rfl, heq, hbel⟩ := hrel
      have BB := hid hbel
      have EQ := hid heq
      clear hbel heq
      by_cases hlt : k < ra.length
      · obtain ⟨p1, o1, x1, y1, b1, rfl, hp1, hx, hx1⟩ := run_at R1.out rfl hlt
        obtain ⟨p2, o2, x2, y2, b2, rfl, hp2, hy, hy1⟩ := run_at R2.out rfl (k := k) (by omega)
        obtain ⟨c1', c2', c3'⟩ := hx1 _ BB.out
        obtain ⟨d1', d2', d3'⟩ := hy1 _ BB.out
        have HX := hid hx
        have HY := hid hy
        clear hp1 hp2 hx hx1 hy hy1
        by_cases hxy : x1 = x2 ∧ y1 = y2 ∧ b1 = b2
        · obtain ⟨rfl, rfl, rfl⟩ := hxy
          cases b1
          all_goals
            go_wp2_with fail
            go_quiet (fail)
            go_wp2
            go_roundw
            case rel => exact ⟨k + 1, by omega, by go_num, by rw [List.take_add_one, List.take_add_one, EQ.out, HX.out, HY.out], below_drewN BB.out _⟩
            case measure => simp [intOf]; omega
        · have R : Hid (false = decide (ra = rb)) := hid (by
            simp
            intro h
            have h1 := HX.out
            rw [h, HY.out] at h1
            simp at h1
            exact hxy ⟨h1.1.symm, h1.2.1.symm, h1.2.2.symm⟩)
          by_cases h1 : x1 = x2
          · subst h1
            by_cases h2 : y1 = y2
            · subst h2
              have h3 : ¬ b1 = b2 := fun h => hxy ⟨rfl, rfl, h⟩
              clear hxy
              cases b1 <;> cases b2 <;> try (exact absurd rfl h3)
              all_goals
                go_wp2_with fail
                go_quiet (fail)
                go_wp2
                go_ret
                exact ⟨ret_b R.out, below_drewN BB.out _⟩
            · clear hxy
              cases b1 <;> cases b2
              all_goals
                go_wp2_with fail
                go_quiet (fail)
                go_wp2
                go_ret
                exact ⟨ret_b R.out, below_drewN BB.out _⟩
          · clear hxy
            cases b1 <;> cases b2
            all_goals
              go_wp2_with fail
              go_quiet (fail)
              go_wp2
              go_ret
              exact ⟨ret_b R.out, below_drewN BB.out _⟩
      · obtain rfl : k = ra.length := by omega
        have R : Hid (true = decide (ra = rb)) := hid (by
          have := EQ.out
          rw [List.take_of_length_le (Nat.le_refl _), List.take_of_length_le (by omega)] at this
          simp [this])
        go_wp2
        go_ret
        exact ⟨ret_b R.out, BB.out⟩
  · have R : Hid (false = decide (ra = rb)) := hid (by
      simp
      intro h
      exact hl (by rw [h]))
    go_enter Try.func28, Try.ntmps28
    go_wp2
    go_ret
    exact ⟨ret_b R.out, Below.refl _ _⟩
end Go.Proofs.Ytccgbojcghbdcaa
