/- Chapter 38: what a deckle says. -/
import Derived.Test.YtccgbojcghbdcaaProg
import Derived.Test.YtccgbojcghbdcaaPat
import Derived.Test.YtccgbojcghbdcaaKit
namespace Go.Proofs.Ytccgbojcghbdcaa
open Go.RowKit

theorem six_false {W E T K : Int} (h : ¬ (1 ≤ W ∧ W ≤ 12000 ∧ 0 ≤ E ∧ E ≤ (W - 1) / 2 ∧ 0 ≤ T ∧ T ≤ W ∧ 1 ≤ K ∧ K ≤ 12)) : W < 1 ∨ (1 ≤ W ∧ 12000 < W) ∨ (1 ≤ W ∧ W ≤ 12000 ∧ E < 0) ∨ (1 ≤ W ∧ W ≤ 12000 ∧ 0 ≤ E ∧ (W - 1) / 2 < E) ∨ (1 ≤ W ∧ W ≤ 12000 ∧ 0 ≤ E ∧ E ≤ (W - 1) / 2 ∧ T < 0) ∨ (1 ≤ W ∧ W ≤ 12000 ∧ 0 ≤ E ∧ E ≤ (W - 1) / 2 ∧ 0 ≤ T ∧ W < T) ∨ (1 ≤ W ∧ W ≤ 12000 ∧ 0 ≤ E ∧ E ≤ (W - 1) / 2 ∧ 0 ≤ T ∧ T ≤ W ∧ K < 1) ∨ (1 ≤ W ∧ W ≤ 12000 ∧ 0 ≤ E ∧ E ≤ (W - 1) / 2 ∧ 0 ≤ T ∧ T ≤ W ∧ 1 ≤ K ∧ 12 < K) := by omega
theorem desc_of_adj : ∀ {l : List Int}, (∀ i x y, l[i]? = some x → l[i + 1]? = some y → y < x) → l.Pairwise (fun a b => b < a)
  | [], _ => List.Pairwise.nil
  | [_], _ => by simp
  | x :: y :: l, h => by
    have h1 := desc_of_adj (l := y :: l) (fun i p q hp hq => h (i + 1) p q (by simpa using hp) (by simpa using hq))
    have h2 := h 0 x y rfl rfl
    rw [List.pairwise_cons]
    refine ⟨fun z hz => ?_, h1⟩
    rcases List.mem_cons.1 hz with rfl | hz
    · exact h2
    · have := (List.pairwise_cons.1 h1).1 z hz
      omega
theorem adj_of_desc {l : List Int} (h : l.Pairwise (fun a b => b < a)) {i : Nat} {x y : Int} (hx : l[i]? = some x) (hy : l[i + 1]? = some y) : y < x := by
  obtain ⟨h1, h2⟩ := List.getElem?_eq_some_iff.1 hx
  obtain ⟨h3, h4⟩ := List.getElem?_eq_some_iff.1 hy
  have := List.pairwise_iff_getElem.1 h i (i + 1) h1 h3 (by omega)
  rw [h2, h4] at this
  exact this
section
variable {W E T K : Int} {zs : List Int}
theorem dk_1 (h : ¬ (1 ≤ W ∧ W ≤ 12000 ∧ 0 ≤ E ∧ E ≤ (W - 1) / 2 ∧ 0 ≤ T ∧ T ≤ W ∧ 1 ≤ K ∧ K ≤ 12)) : 1 = dkErr W E T K zs := by unfold dkErr; rw [if_pos h]
theorem dk_10 (h : 1 ≤ W ∧ W ≤ 12000 ∧ 0 ≤ E ∧ E ≤ (W - 1) / 2 ∧ 0 ≤ T ∧ T ≤ W ∧ 1 ≤ K ∧ K ≤ 12) (hl : zs.length = 0) : 10 = dkErr W E T K zs := by unfold dkErr; rw [if_neg (fun e => e h), if_pos hl]
theorem dk_8 (h : 1 ≤ W ∧ W ≤ 12000 ∧ 0 ≤ E ∧ E ≤ (W - 1) / 2 ∧ 0 ≤ T ∧ T ≤ W ∧ 1 ≤ K ∧ K ≤ 12) (hl : 8 < zs.length) : 8 = dkErr W E T K zs := by unfold dkErr; rw [if_neg (fun e => e h), if_neg (by omega), if_pos hl]
theorem dk_20 (h : 1 ≤ W ∧ W ≤ 12000 ∧ 0 ≤ E ∧ E ≤ (W - 1) / 2 ∧ 0 ≤ T ∧ T ≤ W ∧ 1 ≤ K ∧ K ≤ 12) (hl : zs.length ≠ 0) (hl2 : zs.length ≤ 8) {k : Nat} {z : Int} (hz : zs[k]? = some z) (hn : ¬ (1 ≤ z ∧ z ≤ us W E)) : 20 = dkErr W E T K zs := by
  unfold dkErr; rw [if_neg (fun e => e h), if_neg hl, if_neg (by omega), if_pos (fun e => hn (e z (List.mem_of_getElem? hz)))]
theorem all_at {l : List Int} {p : Int → Prop} (h : ∀ j x, j < l.length → l[j]? = some x → p x) : ∀ x ∈ l, p x := by
  intro x hx
  obtain ⟨j, hj⟩ := List.mem_iff_getElem?.1 hx
  exact h j x (List.getElem?_eq_some_iff.1 hj).1 hj
theorem dk_9 (h : 1 ≤ W ∧ W ≤ 12000 ∧ 0 ≤ E ∧ E ≤ (W - 1) / 2 ∧ 0 ≤ T ∧ T ≤ W ∧ 1 ≤ K ∧ K ≤ 12) (hl : zs.length ≠ 0) (hl2 : zs.length ≤ 8) (hz : ∀ j x, j < zs.length → zs[j]? = some x → 1 ≤ x ∧ x ≤ us W E) {i : Nat} {x y : Int} (hx : zs[i]? = some x) (hy : zs[i + 1]? = some y) (hn : x ≤ y) : 9 = dkErr W E T K zs := by
  unfold dkErr; rw [if_neg (fun e => e h), if_neg hl, if_neg (by omega), if_neg (fun e => e (all_at hz)), if_pos (fun e => by have := adj_of_desc e hx hy; omega)]
theorem dk_0 (h : 1 ≤ W ∧ W ≤ 12000 ∧ 0 ≤ E ∧ E ≤ (W - 1) / 2 ∧ 0 ≤ T ∧ T ≤ W ∧ 1 ≤ K ∧ K ≤ 12) (hl : zs.length ≠ 0) (hl2 : zs.length ≤ 8) (hz : ∀ j x, j < zs.length → zs[j]? = some x → 1 ≤ x ∧ x ≤ us W E) (ho : ∀ i x y, zs[i]? = some x → zs[i + 1]? = some y → y < x) : 0 = dkErr W E T K zs := by
  unfold dkErr; rw [if_neg (fun e => e h), if_neg hl, if_neg (by omega), if_neg (fun e => e (all_at hz)), if_neg (fun e => e (desc_of_adj ho))]
end
theorem usable_any (W E T J : Int) (v : Value) (w : World) (hw : -1152921504606846976 ≤ W ∧ W ≤ 1152921504606846976) (he : -1152921504606846976 ≤ E ∧ E ≤ 1152921504606846976) : Calls Try.prog 60 #[.agg #[.int .i64 W, .int .i64 E, .int .i64 T, .int .i64 J, v]] w fun e w' => e = .returned (.int .i64 (us W E)) ∧ Below w.heap.size w w' := by
  have C := (Blk.at_new w (b := w.heap.size) (t := 32) (cs := #[.int .i64 W, .int .i64 E, .int .i64 T, .int .i64 J, v]) rfl).cell
  go_enter Try.func60, Try.ntmps60
  go_wp2
  go_ret
  exact ⟨ret_i (by unfold us; omega), (Below.refl _ _).alloc (Nat.le_refl _) _⟩
theorem rusable_any (W E T J : Int) (v : Value) (w : World) (hw : -1152921504606846976 ≤ W ∧ W ≤ 1152921504606846976) (he : -1152921504606846976 ≤ E ∧ E ≤ 1152921504606846976) : Calls Try.prog 64 #[.agg #[.int .i64 W, .int .i64 E, .int .i64 T, .int .i64 J, v]] w fun e w' => e = .returned (.int .i64 (us W E)) ∧ Below w.heap.size w w' := by
  have C := (Blk.at_new w (b := w.heap.size) (t := 32) (cs := #[.int .i64 W, .int .i64 E, .int .i64 T, .int .i64 J, v]) rfl).cell
  go_enter Try.func64, Try.ntmps64
  go_wp2
  go_ret
  exact ⟨ret_i (by unfold us; omega), (Below.refl _ _).alloc (Nat.le_refl _) _⟩
set_option linter.unusedSimpArgs false in
set_option maxRecDepth 100000 in
set_option maxHeartbeats 4000000 in
theorem ranges_any (W E T J : Int) (a : Option Addr) (c n : Nat) (zs : List Int) (w : World) (r : Rds Nn w 1 a n (ints zs)) (hn : n = zs.length) (hl : n ≤ maxLen) : Calls Try.prog 56 #[.agg #[.int .i64 W, .int .i64 E, .int .i64 T, .int .i64 J, .slice a n c]] w fun e w' => e = .returned (.int .i64 (dkErr W E T J zs)) ∧ Below w.heap.size w w' := by
  unfold maxLen at hl
  have RR := hid r
  have HN := hid hn
  clear r hn
  by_cases hg : 1 ≤ W ∧ W ≤ 12000 ∧ 0 ≤ E ∧ E ≤ (W - 1) / 2 ∧ 0 ≤ T ∧ T ≤ W ∧ 1 ≤ J ∧ J ≤ 12
  rotate_left
  · have RE : Hid (1 = dkErr W E T J zs) := hid (dk_1 hg)
    have C := (Blk.at_new w (b := w.heap.size) (t := 32) (cs := #[.int .i64 W, .int .i64 E, .int .i64 T, .int .i64 J, .slice a n c]) rfl).cell
    rcases six_false hg with h | ⟨h, k1⟩ | ⟨h, k1, k2⟩ | ⟨h, k1, k2, k3⟩ | ⟨h, k1, k2, k3, k4⟩ | ⟨h, k1, k2, k3, k4, k5⟩ | ⟨h, k1, k2, k3, k4, k5, k6⟩ | ⟨h, k1, k2, k3, k4, k5, k6, k7⟩
    all_goals
      clear hg
      go_enter Try.func56, Try.ntmps56
      go_wp2
      go_ret
      exact ⟨ret_i RE.out, (Below.refl _ _).alloc (Nat.le_refl _) _⟩
  have HG := hid hg
  obtain ⟨g1, g2, g3, g4, g5, g6, g7, g8⟩ := hg
  by_cases hz : n = 0
  · have RE : Hid (10 = dkErr W E T J zs) := hid (dk_10 HG.out (by rw [← HN.out]; exact hz))
    have C := (Blk.at_new w (b := w.heap.size) (t := 32) (cs := #[.int .i64 W, .int .i64 E, .int .i64 T, .int .i64 J, .slice a n c]) rfl).cell
    go_enter Try.func56, Try.ntmps56
    go_wp2
    go_ret
    exact ⟨ret_i RE.out, (Below.refl _ _).alloc (Nat.le_refl _) _⟩
  have hzf : ((n : Int) == 0) = false := by simp; omega
  by_cases hz8 : 8 < n
  · have RE : Hid (8 = dkErr W E T J zs) := hid (dk_8 HG.out (by rw [← HN.out]; exact hz8))
    have C := (Blk.at_new w (b := w.heap.size) (t := 32) (cs := #[.int .i64 W, .int .i64 E, .int .i64 T, .int .i64 J, .slice a n c]) rfl).cell
    go_enter Try.func56, Try.ntmps56
    go_wp2
    go_ret
    exact ⟨ret_i RE.out, (Below.refl _ _).alloc (Nat.le_refl _) _⟩
  have D0 := hid (Blk.at_new w (b := w.heap.size) (t := 32) (cs := #[.int .i64 W, .int .i64 E, .int .i64 T, .int .i64 J, .slice a n c]) rfl)
  have B0 := hid ((Below.refl w.heap.size w).alloc (Nat.le_refl _) (.cells #[.int .i64 W, .int .i64 E, .int .i64 T, .int .i64 J, .slice a n c] 32))
  have C := D0.out.cell
  go_enter Try.func56, Try.ntmps56
  go_wp2
  go_loopw [61] (fun i wr => ∃ k : Nat, k ≤ n ∧ i = .int .i64 k ∧ (∀ j x, j < k → zs[j]? = some x → 1 ≤ x ∧ x ≤ us W E) ∧ Blk wr w.heap.size 32 #[.int .i64 W, .int .i64 E, .int .i64 T, .int .i64 J, .slice a n c] ∧ Below w.heap.size w wr) (fun i _ => n - (intOf i).toNat)
  case atStart => exact ⟨0, Nat.zero_le _, rfl, fun j x hj => by omega, D0.out, B0.out⟩
  case round =>
    obtain ⟨k, hk, rfl, hall, hD, hbel⟩ := hrel
    have AL := hid hall
    have DD := hid hD
    have BB := hid hbel
    have C := hD.cell
    clear hall hD hbel
    by_cases hlt : k < n
    · obtain ⟨p, o, z, rfl, hp, hzk, hcell⟩ := num_at RR.out hlt
      have e1 := hcell _ BB.out
      have EC := hid hcell
      have HZ := hid hzk
      clear hcell hzk
      by_cases hz1 : z < 1
      · have RE : Hid (20 = dkErr W E T J zs) := hid (dk_20 HG.out (by rw [← HN.out]; exact hz) (by rw [← HN.out]; omega) HZ.out (by omega))
        go_wp2
        go_ret
        exact ⟨ret_i RE.out, BB.out⟩
      · go_wp2_with (refine wpList_load_blk2 (t := 32) rfl rfl rfl Try.underlying32 rfl (by kernel_rfl) DD.out ?_)
        refine (usable_any W E T J _ _ (by omega) (by omega)).mono ?_
        rintro e w5 ⟨rfl, hb⟩
        have HB5 := hid hb
        clear hb
        have D5 := hid (Blk.below DD.out HB5.out DD.out.lt)
        have B5 := hid (BB.out.trans (HB5.out.mono BB.out.size))
        clear C e1
        have C := D5.out.cell
        by_cases hz2 : z ≤ us W E
        · have hz3 : 1 ≤ z := by omega
          go_wp2
          go_roundw
          case rel =>
            refine ⟨k + 1, by omega, by go_num, fun j x hj hx => ?_, D5.out, B5.out⟩
            by_cases hjk : j = k
            · subst hjk
              rw [HZ.out] at hx
              injection hx with hx
              subst hx
              exact ⟨hz3, hz2⟩
            · exact AL.out j x (by omega) hx
          case measure => simp [intOf]; omega
        · have RE : Hid (20 = dkErr W E T J zs) := hid (dk_20 HG.out (by rw [← HN.out]; exact hz) (by rw [← HN.out]; omega) HZ.out (by omega))
          go_wp2
          go_ret
          exact ⟨ret_i RE.out, B5.out⟩
    · obtain rfl : k = n := by omega
      go_wp2
      go_loopw [5] (fun i wr => ∃ k2 : Nat, 1 ≤ k2 ∧ k2 ≤ k ∧ i = .int .i64 k2 ∧ (∀ i x y, i + 1 < k2 → zs[i]? = some x → zs[i + 1]? = some y → y < x) ∧ Blk wr w.heap.size 32 #[.int .i64 W, .int .i64 E, .int .i64 T, .int .i64 J, .slice a k c] ∧ Below w.heap.size w wr) (fun i _ => k - (intOf i).toNat)
      case atStart => exact ⟨1, Nat.le_refl _, by omega, rfl, fun i x y hi => by omega, DD.out, BB.out⟩
      case round =>
        obtain ⟨k2, hk1, hk2, rfl, hall, hD, hbel⟩ := hrel
        have AD := hid hall
        have DD := hid hD
        have BB := hid hbel
        clear C
        have C := hD.cell
        clear hall hD hbel
        by_cases hlt2 : k2 < k
        · obtain ⟨p, o, y, rfl, hp, hyk, hcell⟩ := num_at RR.out hlt2
          obtain ⟨p', o', x, hA, hp', hxk, hcell'⟩ := num_at RR.out (k := k2 - 1) (by omega)
          injection hA with hA
          injection hA with hA1 hA2 _
          subst hA1 hA2
          have e1 := hcell _ BB.out
          have e2 := hcell' _ BB.out
          have HY := hid hyk
          have HX := hid hxk
          clear hcell hcell' hyk hxk
          by_cases hle : x ≤ y
          · have RE : Hid (9 = dkErr W E T J zs) := hid (dk_9 HG.out (by rw [← HN.out]; exact hz) (by rw [← HN.out]; omega) (by rw [← HN.out]; exact AL.out) HX.out (by rw [show k2 - 1 + 1 = k2 by omega]; exact HY.out) hle)
            go_wp2_with fail
            go_quiet (fail)
            go_wp2
            go_ret
            exact ⟨ret_i RE.out, below_drewN BB.out _⟩
          · go_wp2_with fail
            go_quiet (fail)
            go_wp2
            go_roundw
            case rel =>
              refine ⟨k2 + 1, by omega, by omega, by go_num, fun i x' y' hi hx hy => ?_, DD.out, below_drewN BB.out _⟩
              by_cases hik : i + 1 = k2
              · subst hik
                rw [HY.out] at hy
                rw [show i + 1 - 1 = i by omega] at HX
                rw [HX.out] at hx
                injection hx with hx
                injection hy with hy
                subst hx hy
                omega
              · exact AD.out i x' y' (by omega) hx hy
            case measure => simp [intOf]; omega
        · obtain rfl : k2 = k := by omega
          have RE : Hid (0 = dkErr W E T J zs) := hid (dk_0 HG.out (by rw [← HN.out]; exact hz) (by rw [← HN.out]; omega) (by rw [← HN.out]; exact AL.out) (fun i x y hx hy => AD.out i x y (by have := (List.getElem?_eq_some_iff.1 hy).1; rw [HN.out]; exact this) hx hy))
          go_wp2
          go_ret
          exact ⟨ret_i RE.out, BB.out⟩
set_option linter.unusedSimpArgs false in
set_option maxRecDepth 100000 in
set_option maxHeartbeats 4000000 in
theorem right_any (W E T J : Int) (a : Option Addr) (c n : Nat) (zs : List Int) (w : World) (r : Rds Nn w 1 a n (ints zs)) (hn : n = zs.length) (hl : n ≤ maxLen) : Calls Try.prog 62 #[.agg #[.int .i64 W, .int .i64 E, .int .i64 T, .int .i64 J, .slice a n c]] w fun e w' => e = .returned (.int .i64 (dkErr W E T J zs)) ∧ Below w.heap.size w w' := by
  unfold maxLen at hl
  have RR := hid r
  have HN := hid hn
  clear r hn
  by_cases hg : 1 ≤ W ∧ W ≤ 12000 ∧ 0 ≤ E ∧ E ≤ (W - 1) / 2 ∧ 0 ≤ T ∧ T ≤ W ∧ 1 ≤ J ∧ J ≤ 12
  rotate_left
  · have RE : Hid (1 = dkErr W E T J zs) := hid (dk_1 hg)
    have C := (Blk.at_new w (b := w.heap.size) (t := 32) (cs := #[.int .i64 W, .int .i64 E, .int .i64 T, .int .i64 J, .slice a n c]) rfl).cell
    rcases six_false hg with h | ⟨h, k1⟩ | ⟨h, k1, k2⟩ | ⟨h, k1, k2, k3⟩ | ⟨h, k1, k2, k3, k4⟩ | ⟨h, k1, k2, k3, k4, k5⟩ | ⟨h, k1, k2, k3, k4, k5, k6⟩ | ⟨h, k1, k2, k3, k4, k5, k6, k7⟩
    all_goals
      clear hg
      go_enter Try.func62, Try.ntmps62
      go_wp2
      go_ret
      exact ⟨ret_i RE.out, (Below.refl _ _).alloc (Nat.le_refl _) _⟩
  have HG := hid hg
  obtain ⟨g1, g2, g3, g4, g5, g6, g7, g8⟩ := hg
  by_cases hz : n = 0
  · have RE : Hid (10 = dkErr W E T J zs) := hid (dk_10 HG.out (by rw [← HN.out]; exact hz))
    have C := (Blk.at_new w (b := w.heap.size) (t := 32) (cs := #[.int .i64 W, .int .i64 E, .int .i64 T, .int .i64 J, .slice a n c]) rfl).cell
    go_enter Try.func62, Try.ntmps62
    go_wp2
    go_ret
    exact ⟨ret_i RE.out, (Below.refl _ _).alloc (Nat.le_refl _) _⟩
  have hzf : ((n : Int) == 0) = false := by simp; omega
  by_cases hz8 : 8 < n
  · have RE : Hid (8 = dkErr W E T J zs) := hid (dk_8 HG.out (by rw [← HN.out]; exact hz8))
    have C := (Blk.at_new w (b := w.heap.size) (t := 32) (cs := #[.int .i64 W, .int .i64 E, .int .i64 T, .int .i64 J, .slice a n c]) rfl).cell
    go_enter Try.func62, Try.ntmps62
    go_wp2
    go_ret
    exact ⟨ret_i RE.out, (Below.refl _ _).alloc (Nat.le_refl _) _⟩
  have D0 := hid (Blk.at_new w (b := w.heap.size) (t := 32) (cs := #[.int .i64 W, .int .i64 E, .int .i64 T, .int .i64 J, .slice a n c]) rfl)
  have B0 := hid ((Below.refl w.heap.size w).alloc (Nat.le_refl _) (.cells #[.int .i64 W, .int .i64 E, .int .i64 T, .int .i64 J, .slice a n c] 32))
  have C := D0.out.cell
  go_enter Try.func62, Try.ntmps62
  go_wp2
  go_loopw [3] (fun i wr => ∃ k : Nat, k ≤ n ∧ i = .int .i64 k ∧ (∀ j x, j < k → zs[j]? = some x → 1 ≤ x ∧ x ≤ us W E) ∧ Blk wr w.heap.size 32 #[.int .i64 W, .int .i64 E, .int .i64 T, .int .i64 J, .slice a n c] ∧ Below w.heap.size w wr) (fun i _ => n - (intOf i).toNat)
  case atStart => exact ⟨0, Nat.zero_le _, rfl, fun j x hj => by omega, D0.out, B0.out⟩
  case round =>
    obtain ⟨k, hk, rfl, hall, hD, hbel⟩ := hrel
    have AL := hid hall
    have DD := hid hD
    have BB := hid hbel
    have C := hD.cell
    clear hall hD hbel
    by_cases hlt : k < n
    · obtain ⟨p, o, z, rfl, hp, hzk, hcell⟩ := num_at RR.out hlt
      have e1 := hcell _ BB.out
      have EC := hid hcell
      have HZ := hid hzk
      clear hcell hzk
      by_cases hz1 : z < 1
      · have RE : Hid (20 = dkErr W E T J zs) := hid (dk_20 HG.out (by rw [← HN.out]; exact hz) (by rw [← HN.out]; omega) HZ.out (by omega))
        go_wp2_with fail
        go_quiet (fail)
        go_wp2
        go_ret
        exact ⟨ret_i RE.out, below_drewN BB.out _⟩
      · go_upto_region 10 with fail
        refine wp_region_hand (fun w' => Blk w' w.heap.size 32 #[.int .i64 W, .int .i64 E, .int .i64 T, .int .i64 J, .slice (some ⟨p, o, none⟩) n c] ∧ w'.cell? ⟨p, o + k, none⟩ = some (.int .i64 z)) (by kernel_rfl) ?_
        simp only [List.length_cons, List.length_nil, Nat.zero_add, Nat.reduceAdd]
        have hS : Blk wr.drew w.heap.size 32 #[.int .i64 W, .int .i64 E, .int .i64 T, .int .i64 J, .slice (some ⟨p, o, none⟩) n c] ∧ wr.drew.cell? ⟨p, o + k, none⟩ = some (.int .i64 z) := ⟨DD.out, e1⟩
        refine take_at (i := 0) (v := ?_) rfl rfl (by kernel_rfl) (by kernel_rfl) (by kernel_rfl) (fun _ _ _ h => h) (Or.inl ⟨by rfl, ?_⟩) hS ?_
        rotate_left
        · intro w hSw; (try dsimp only at hSw); go_simp; try with_reducible rfl
        try simp only [List.setIfInBounds_toArray, List.set_cons_zero, List.set_cons_succ]
        refine take_at (i := 1) (v := ?_) rfl rfl (by kernel_rfl) (by kernel_rfl) (by kernel_rfl) (fun _ _ _ h => h) (Or.inl ⟨by rfl, ?_⟩) hS ?_
        rotate_left
        · intro wi hSw; have ci0 := hSw.1.cell; go_simp; try with_reducible rfl
        try simp only [List.setIfInBounds_toArray, List.set_cons_zero, List.set_cons_succ]
        refine take_at (i := 2) (v := ?_) rfl rfl (by kernel_rfl) (by kernel_rfl) (by kernel_rfl) (fun _ _ _ h => h) (Or.inl ⟨by rfl, ?_⟩) hS ?_
        rotate_left
        · intro w hSw; (try dsimp only at hSw); go_simp; try with_reducible rfl
        try simp only [List.setIfInBounds_toArray, List.set_cons_zero, List.set_cons_succ]
        refine take_at (i := 3) (v := ?_) rfl rfl (by kernel_rfl) (by kernel_rfl) (by kernel_rfl) (fun _ _ _ h => h) (Or.inl ⟨by rfl, ?_⟩) hS ?_
        rotate_left
        · intro w hSw; (try dsimp only at hSw); go_simp; try with_reducible rfl
        try simp only [List.setIfInBounds_toArray, List.set_cons_zero, List.set_cons_succ]
        refine take_at (i := 4) (v := ?_) rfl rfl (by kernel_rfl) (by kernel_rfl) (by kernel_rfl) (fun _ _ _ h => h) (Or.inl ⟨by rfl, ?_⟩) hS ?_
        rotate_left
        · intro wi hSw; have ci0 := hSw.2; go_simp; try with_reducible rfl
        try simp only [List.setIfInBounds_toArray, List.set_cons_zero, List.set_cons_succ]
        refine take_at (i := 5) (v := ?_) rfl rfl (by kernel_rfl) (by kernel_rfl) (by kernel_rfl) (fun _ _ _ h => h) (Or.inl ⟨by rfl, ?_⟩) hS ?_
        rotate_left
        · intro w hSw; (try dsimp only at hSw); go_simp; try with_reducible rfl
        try simp only [List.setIfInBounds_toArray, List.set_cons_zero, List.set_cons_succ]
        refine take_at (i := 6) (v := ?_) rfl rfl (by kernel_rfl) (by kernel_rfl) (by kernel_rfl) (fun _ _ _ h => h) (Or.inl ⟨by rfl, ?_⟩) hS ?_
        rotate_left
        · intro w hSw; (try dsimp only at hSw); go_simp; try with_reducible rfl
        try simp only [List.setIfInBounds_toArray, List.set_cons_zero, List.set_cons_succ]
        refine take_at (i := 7) (v := ?_) rfl rfl (by kernel_rfl) (by kernel_rfl) (by kernel_rfl) (fun _ _ _ h => h) (Or.inl ⟨by rfl, ?_⟩) hS ?_
        rotate_left
        · intro w hSw; (try dsimp only at hSw); go_simp; try with_reducible rfl
        try simp only [List.setIfInBounds_toArray, List.set_cons_zero, List.set_cons_succ]
        refine take_at (i := 8) (v := ?_) rfl rfl (by kernel_rfl) (by kernel_rfl) (by kernel_rfl) (fun _ _ _ h => h) (Or.inl ⟨by rfl, ?_⟩) hS ?_
        rotate_left
        · intro wi hSw; have ci0 := hSw.1.cell; go_simp; try with_reducible rfl
        try simp only [List.setIfInBounds_toArray, List.set_cons_zero, List.set_cons_succ]
        refine take_at (i := 9) (v := ?_) rfl rfl (by kernel_rfl) (by kernel_rfl) (by kernel_rfl) (fun _ _ _ h => h) (Or.inl ⟨by rfl, ?_⟩) hS ?_
        rotate_left
        · intro w hSw; (try dsimp only at hSw); go_simp; try with_reducible rfl
        try simp only [List.setIfInBounds_toArray, List.set_cons_zero, List.set_cons_succ]
        refine take_at (i := 10) (v := ?_) rfl rfl (by kernel_rfl) (by kernel_rfl) (by kernel_rfl) (fun _ _ _ h => h) (Or.inl ⟨by rfl, ?_⟩) hS ?_
        rotate_left
        · intro w hSw; (try dsimp only at hSw); go_simp; try with_reducible rfl
        try simp only [List.setIfInBounds_toArray, List.set_cons_zero, List.set_cons_succ]
        refine take_at (i := 11) (v := ?_) rfl rfl (by kernel_rfl) (by kernel_rfl) (by kernel_rfl) (fun _ _ _ h => h) (Or.inl ⟨by rfl, ?_⟩) hS ?_
        rotate_left
        · intro wi hSw; have ci0 := hSw.2; go_simp; try with_reducible rfl
        try simp only [List.setIfInBounds_toArray, List.set_cons_zero, List.set_cons_succ]
        refine take_at (i := 12) (v := .agg #[.int .i64 W, .int .i64 E, .int .i64 T, .int .i64 J, .slice (some ⟨p, o, none⟩) n c]) rfl rfl (by kernel_rfl) (by kernel_rfl) (by kernel_rfl) (fun _ _ _ h => h) (Or.inl ⟨by rfl, fun wi hSw => exec_loads (p := .pointer (some ⟨w.heap.size, 0, none⟩)) rfl rfl (load_blk hSw.1 Try.underlying32 rfl (by kernel_rfl))⟩) hS ?_
        try simp only [List.setIfInBounds_toArray, List.set_cons_zero, List.set_cons_succ]
        refine wpAnyH_ready (rs := [13]) (by kernel_rfl) (by simp) ?_
        refine AllReadyH.cons rfl (fun K hK => ?_) AllReadyH.nil
        go_simp
        (go_at_call 64; refine (rusable_any W E T J _ _ (by omega) (by omega)).mono ?_; rintro e w5 ⟨rfl, hb⟩; have HB5 := hid (show Below wr.heap.size wr w5 from by first | exact hb | exact (Below.drew (Below.refl _ _)).trans hb); have D6 := hid (Blk.below DD.out HB5.out DD.out.lt); have f6 := EC.out _ (BB.out.trans (HB5.out.mono BB.out.size)); clear hb hS)
        refine hK.out _ _ ⟨D6.out, f6⟩ (fun hS => ?_)
        clear hK K
        try simp only [Act.put, List.setIfInBounds_toArray, List.set_cons_zero, List.set_cons_succ]
        refine take_at (i := 14) (v := ?_) rfl rfl (by kernel_rfl) (by kernel_rfl) (by kernel_rfl) (fun _ _ _ h => h) (Or.inl ⟨by rfl, ?_⟩) hS ?_
        rotate_left
        · intro w hSw; (try dsimp only at hSw); go_simp; try with_reducible rfl
        try simp only [List.setIfInBounds_toArray, List.set_cons_zero, List.set_cons_succ]
        refine take_at (i := 15) (v := ?_) rfl rfl (by kernel_rfl) (by kernel_rfl) (by kernel_rfl) (fun _ _ _ h => h) (Or.inl ⟨by rfl, ?_⟩) hS ?_
        rotate_left
        · intro w hSw; (try dsimp only at hSw); go_simp; try with_reducible rfl
        try simp only [List.setIfInBounds_toArray, List.set_cons_zero, List.set_cons_succ]
        refine wpAnyH_done (by kernel_rfl) ?_ _
        simp only [Sure, Exit.then]
        clear hS f6
        have D5 := hid (Blk.below DD.out HB5.out DD.out.lt)
        have B5 := hid (BB.out.trans (HB5.out.mono BB.out.size))
        clear C e1
        have C := D5.out.cell
        by_cases hz2 : z ≤ us W E
        · have hz3 : 1 ≤ z := by omega
          go_wp2
          go_roundw
          case rel =>
            refine ⟨k + 1, by omega, by go_num, fun j x hj hx => ?_, D5.out, B5.out⟩
            by_cases hjk : j = k
            · subst hjk
              rw [HZ.out] at hx
              injection hx with hx
              subst hx
              exact ⟨hz3, hz2⟩
            · exact AL.out j x (by omega) hx
          case measure => simp [intOf]; omega
        · have RE : Hid (20 = dkErr W E T J zs) := hid (dk_20 HG.out (by rw [← HN.out]; exact hz) (by rw [← HN.out]; omega) HZ.out (by omega))
          go_wp2
          go_ret
          exact ⟨ret_i RE.out, B5.out⟩
    · obtain rfl : k = n := by omega
      go_wp2
      go_loopw [4] (fun i wr => ∃ k2 : Nat, 1 ≤ k2 ∧ k2 ≤ k ∧ i = .int .i64 k2 ∧ (∀ i x y, i + 1 < k2 → zs[i]? = some x → zs[i + 1]? = some y → y < x) ∧ Blk wr w.heap.size 32 #[.int .i64 W, .int .i64 E, .int .i64 T, .int .i64 J, .slice a k c] ∧ Below w.heap.size w wr) (fun i _ => k - (intOf i).toNat)
      case atStart => exact ⟨1, Nat.le_refl _, by omega, rfl, fun i x y hi => by omega, DD.out, BB.out⟩
      case round =>
        obtain ⟨k2, hk1, hk2, rfl, hall, hD, hbel⟩ := hrel
        have AD := hid hall
        have DD := hid hD
        have BB := hid hbel
        clear C
        have C := hD.cell
        clear hall hD hbel
        by_cases hlt2 : k2 < k
        · obtain ⟨p, o, y, rfl, hp, hyk, hcell⟩ := num_at RR.out hlt2
          obtain ⟨p', o', x, hA, hp', hxk, hcell'⟩ := num_at RR.out (k := k2 - 1) (by omega)
          injection hA with hA
          injection hA with hA1 hA2 _
          subst hA1 hA2
          have e1 := hcell _ BB.out
          have e2 := hcell' _ BB.out
          have HY := hid hyk
          have HX := hid hxk
          clear hcell hcell' hyk hxk
          by_cases hle : x ≤ y
          · have RE : Hid (9 = dkErr W E T J zs) := hid (dk_9 HG.out (by rw [← HN.out]; exact hz) (by rw [← HN.out]; omega) (by rw [← HN.out]; exact AL.out) HX.out (by rw [show k2 - 1 + 1 = k2 by omega]; exact HY.out) hle)
            go_wp2_with fail
            go_quiet (fail)
            go_wp2
            go_ret
            exact ⟨ret_i RE.out, below_drewN BB.out _⟩
          · go_wp2_with fail
            go_quiet (fail)
            go_wp2
            go_roundw
            case rel =>
              refine ⟨k2 + 1, by omega, by omega, by go_num, fun i x' y' hi hx hy => ?_, DD.out, below_drewN BB.out _⟩
              by_cases hik : i + 1 = k2
              · subst hik
                rw [HY.out] at hy
                rw [show i + 1 - 1 = i by omega] at HX
                rw [HX.out] at hx
                injection hx with hx
                injection hy with hy
                subst hx hy
                omega
              · exact AD.out i x' y' (by omega) hx hy
            case measure => simp [intOf]; omega
        · obtain rfl : k2 = k := by omega
          have RE : Hid (0 = dkErr W E T J zs) := hid (dk_0 HG.out (by rw [← HN.out]; exact hz) (by rw [← HN.out]; omega) (by rw [← HN.out]; exact AL.out) (fun i x y hx hy => AD.out i x y (by have := (List.getElem?_eq_some_iff.1 hy).1; rw [HN.out]; exact this) hx hy))
          go_wp2
          go_ret
          exact ⟨ret_i RE.out, BB.out⟩
end Go.Proofs.Ytccgbojcghbdcaa
