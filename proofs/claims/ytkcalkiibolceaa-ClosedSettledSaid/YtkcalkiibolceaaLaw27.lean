/- Chapter 27: what the laws share. -/
import Derived.Test.YtkcalkiibolceaaCl6
namespace Go.Proofs.Ytkcalkiibolceaa
open Go.RowKit

theorem Rds.lit3 {w : World} {g : Nat} {t : TypeId} {rows : List (List Int)} (h : Blk w g t (ints rows.flatten).toArray) (hl : (ints rows.flatten).length = rows.length * 3) : Rds Nn w 3 (some ⟨g, 0, none⟩) rows.length (ints rows.flatten) := by
  refine ⟨hl, fun _ => ⟨_, rfl, h.lt, id, fun j u hu => ?_⟩⟩
  rw [add_at, h.cell, Nat.zero_add]
  simpa using hu
theorem Rds.lit {w : World} {g : Nat} {t : TypeId} {l : List Int} (h : Blk w g t (ints l).toArray) : Rds Nn w 1 (some ⟨g, 0, none⟩) l.length (ints l) := by
  refine ⟨by simp [ints], fun _ => ⟨_, rfl, h.lt, id, fun j u hu => ?_⟩⟩
  rw [add_at, h.cell, Nat.zero_add]
  simpa using hu
set_option linter.unusedSimpArgs false in
theorem few_any (a1 a2 : Option Addr) (n1 n2 c1 c2 : Nat) (w : World) (h1 : n1 ≤ maxLen) (h2 : n2 ≤ maxLen) : Calls Try.prog 15 #[.slice a1 n1 c1, .slice a2 n2 c2] w fun e w' => e = .returned (.bool (decide (n1 ≤ 600) && decide (n2 ≤ 600))) ∧ w = w' := by
  unfold maxLen at h1 h2
  by_cases k1 : n1 ≤ 600
  all_goals by_cases k2 : n2 ≤ 600
  all_goals
    have R : Hid ((decide (n1 ≤ 600) && decide (n2 ≤ 600)) = (decide (n1 ≤ 600) && decide (n2 ≤ 600))) := hid rfl
    go_enter Try.func15, Try.ntmps15
    go_wp2
    go_ret
    refine ⟨ret_b ?_, rfl⟩
    first | (simp [k1, k2]; done) | (simp [k1, k2]; omega)
theorem loop_any (w : World) : Calls Try.prog 32 #[] w fun e w' => e = .returned (.agg #[.int .i64 0, .int .i64 256, .int .i64 8, .int .i64 0, .int .i64 100, .int .i64 10, .int .i64 256, .int .i64 1, .int .i64 0]) ∧ Below w.heap.size w w' := by
  go_enter Try.func32, Try.ntmps32
  go_wp2
  go_returns
  exact ⟨rfl, (Below.refl _ _).alloc (Nat.le_refl _) _⟩
theorem aw_rows : runRows 0 256 8 0 100 10 256 1 0 0 0 [15, 15, 15] [0, 0, 0] = [[15, 10, 10], [15, 15, 15], [15, 15, 15]] := by decide +kernel
theorem aw_err : runErr 0 256 8 0 100 10 256 1 0 0 0 [15, 15, 15] [0, 0, 0] = 0 := by decide +kernel
theorem aw_v1 : val 0 256 8 0 100 10 256 1 (s0 0 0 0) 15 1 = 10 := by decide +kernel
theorem aw_v2 : val 0 256 8 0 100 10 256 1 (s0 0 0 0) 15 2 = 15 := by decide +kernel
theorem aw_v3 : val 0 256 8 0 100 10 256 1 (s0 0 0 0) 15 3 = 15 := by decide +kernel
theorem aw_pre : stPre 0 256 8 0 100 10 256 1 0 0 0 15 0 2 5 = 0 := by decide +kernel
theorem aw_st : StRes 0 256 8 0 100 10 256 1 0 0 0 15 0 2 5 3 0 := by
  refine ⟨fun h => absurd aw_pre h, fun _ => .inl ⟨3, rfl, rfl, by omega, by omega, ⟨by omega, fun j h1 h2 => ?_⟩, fun m hm hs => ?_⟩⟩
  · have hj : j = 2 ∨ j = 3 := by omega
    rcases hj with rfl | rfl
    · rw [show (0 : Int).toNat = 0 from rfl, aw_v2]; unfold nearI; omega
    · rw [show (0 : Int).toNat = 0 from rfl, aw_v3]; unfold nearI; omega
  · have h1 := hs.1
    have hm2 : m = 2 := by omega
    subst hm2
    have := hs.2 1 (by omega) (by omega)
    rw [show (0 : Int).toNat = 0 from rfl, aw_v1] at this
    unfold nearI at this
    omega
theorem aw_run (a1 a2 : Option Addr) (c1 c2 : Nat) (w : World) (r1 : Rds Nn w 1 a1 3 (ints [15, 15, 15])) (r2 : Rds Nn w 1 a2 3 (ints [0, 0, 0])) : Calls Try.prog 16 #[.agg #[.int .i64 0, .int .i64 256, .int .i64 8, .int .i64 0, .int .i64 100, .int .i64 10, .int .i64 256, .int .i64 1, .int .i64 0], .int .i64 0, .int .i64 0, .slice a1 3 c1, .slice a2 3 c2] w fun e w' => ∃ u, e = .returned (.tuple #[u, .int .i64 0]) ∧ NewRows w w' u [[15, 10, 10], [15, 15, 15], [15, 15, 15]] := by
  have h := run_any 0 256 8 0 100 10 256 1 0 0 0 a1 a2 c1 c2 [15, 15, 15] [0, 0, 0] w r1 r2 (by decide)
  unfold RunPost at h
  rw [aw_err, aw_rows] at h
  exact h
theorem aw_set (w : World) : Calls Try.prog 19 #[.agg #[.int .i64 0, .int .i64 256, .int .i64 8, .int .i64 0, .int .i64 100, .int .i64 10, .int .i64 256, .int .i64 1, .int .i64 0], .int .i64 0, .int .i64 0, .int .i64 15, .agg #[.int .i64 0, .int .i64 2, .int .i64 5]] w fun e w' => e = .returned (.tuple #[.int .i64 3, .int .i64 0]) ∧ Below w.heap.size w w' := by
  refine (settle_any 0 256 8 0 100 10 256 1 0 0 0 15 0 2 5 w).mono ?_
  rintro e w' ⟨n, c, rfl, h, hb⟩
  obtain ⟨rfl, rfl⟩ := st_one h aw_st
  exact ⟨rfl, hb⟩
theorem aw_l1 : limLo 0 256 8 0 100 10 256 1 0 3 = -3 := by decide +kernel
theorem aw_l2 : limHi 0 256 8 0 100 10 256 1 0 3 = 103 := by decide +kernel
theorem aw_l3 : limErr 0 256 8 0 100 10 256 1 0 3 = 0 := by decide +kernel
theorem aw_lim (w : World) : Calls Try.prog 10 #[.agg #[.int .i64 0, .int .i64 256, .int .i64 8, .int .i64 0, .int .i64 100, .int .i64 10, .int .i64 256, .int .i64 1, .int .i64 0], .int .i64 3] w fun e w' => e = .returned (.tuple #[.int .i64 (-3), .int .i64 103, .int .i64 0]) ∧ Below w.heap.size w w' := by
  have h := climits_any 0 256 8 0 100 10 256 1 0 3 w
  rw [aw_l1, aw_l2, aw_l3] at h
  exact h
theorem aw_same (a1 a2 : Option Addr) (c1 c2 : Nat) (w : World) (r1 : Rds Nn w 3 a1 3 (ints [[15, 10, 10], [15, 15, 15], [15, 15, 15]].flatten)) (r2 : Rds Nn w 3 a2 3 (ints [[15, 10, 10], [15, 15, 15], [15, 15, 15]].flatten)) : Calls Try.prog 18 #[.slice a1 3 c1, .slice a2 3 c2] w fun e w' => e = .returned (.bool true) ∧ Below w.heap.size w w' :=
  same_any a1 a2 c1 c2 [[15, 10, 10], [15, 15, 15], [15, 15, 15]] [[15, 10, 10], [15, 15, 15], [15, 15, 15]] w r1 r2 (by decide) (by decide) (by decide)
set_option maxHeartbeats 1000000 in
theorem awake_any (w : World) : Calls Try.prog 14 #[] w fun e w' => e = .returned (.bool true) ∧ Below w.heap.size w w' := by
  go_enter Try.func14, Try.ntmps14
  go_wp2_with fail
  refine (loop_any _).mono ?_
  rintro e w1 ⟨rfl, hb⟩
  have B1 := hid hb
  clear hb
  go_wp2_with fail
  have r1 : ∀ o : Obj, Rds Nn ((w1.alloc (.cells #[.int .i64 15, .int .i64 15, .int .i64 15] 3)).alloc o) 1 (some ⟨w1.heap.size, 0, none⟩) 3 (ints [15, 15, 15]) := fun o => Rds.lit (Blk.alloc (Blk.at_new w1 rfl) o)
  have r2 : Rds Nn ((w1.alloc (.cells #[.int .i64 15, .int .i64 15, .int .i64 15] 3)).alloc (.cells #[.int .i64 0, .int .i64 0, .int .i64 0] 3)) 1 (some ⟨w1.heap.size + 1, 0, none⟩) 3 (ints [0, 0, 0]) := Rds.lit (Blk.at_new _ (by simp))
  refine (aw_run _ _ _ _ _ (r1 _) r2).mono ?_
  rintro e w2 ⟨u, rfl, hu⟩
  obtain ⟨hown, hb⟩ := hu
  obtain ⟨A, c, rfl, _, _⟩ := own_form hown
  have RU2 := hid (Rds.own hown (S := Nn) (fun _ _ => id))
  have B2 : Hid (Below w.heap.size w w2) := hid ((Below.alloc (Below.alloc B1.out B1.out.size _) (Nat.le_trans B1.out.size (by simp)) _).trans (hb.mono (Nat.le_trans B1.out.size (by simp <;> omega))))
  clear hown hb r1 r2
  go_wp2_with fail
  refine (loop_any _).mono ?_
  rintro e w3 ⟨rfl, hb⟩
  have RU3 := hid (RU2.out.below hb)
  have B3 := hid (B2.out.trans (hb.mono B2.out.size))
  clear hb
  go_wp2_with fail
  refine (aw_set _).mono ?_
  rintro e w4 ⟨rfl, hb⟩
  have RU4 := hid (RU3.out.below hb)
  have B4 := hid (B3.out.trans (hb.mono B3.out.size))
  clear hb
  go_wp2_with fail
  refine (loop_any _).mono ?_
  rintro e w5 ⟨rfl, hb⟩
  have RU5 := hid (RU4.out.below hb)
  have B5 := hid (B4.out.trans (hb.mono B4.out.size))
  clear hb
  go_wp2_with fail
  refine (aw_lim _).mono ?_
  rintro e w6 ⟨rfl, hb⟩
  have RU6 := hid (RU5.out.below hb)
  have B6 := hid (B5.out.trans (hb.mono B5.out.size))
  clear hb
  go_wp2_with fail
  have r3 : Rds Nn (w6.alloc (.cells #[.int .i64 15, .int .i64 10, .int .i64 10, .int .i64 15, .int .i64 15, .int .i64 15, .int .i64 15, .int .i64 15, .int .i64 15] 49)) 3 (some ⟨w6.heap.size, 0, none⟩) 3 (ints [[15, 10, 10], [15, 15, 15], [15, 15, 15]].flatten) := Rds.lit3 (Blk.at_new _ rfl) rfl
  refine (aw_same _ _ _ _ _ (RU6.out.below ((Below.refl _ _).alloc (Nat.le_refl _) _)) r3).mono ?_
  rintro e w7 ⟨rfl, hb⟩
  have B7 := hid ((Below.alloc B6.out B6.out.size _).trans (hb.mono (Nat.le_trans B6.out.size (by simp))))
  clear hb r3
  go_wp2
  go_ret
  exact ⟨rfl, B7.out⟩
end Go.Proofs.Ytkcalkiibolceaa
