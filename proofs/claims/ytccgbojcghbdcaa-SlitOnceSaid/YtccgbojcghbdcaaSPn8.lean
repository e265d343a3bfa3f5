/- Chapter 38: Check, room, Fits. -/
import Derived.Test.YtccgbojcghbdcaaSPn7
import Derived.OwnWalk
namespace Go.Proofs.Ytccgbojcghbdcaa
open Go.RowKit

theorem pats_all (W E T J : Int) (zs : List Int) : ([] ++ ext [] (pat T J (zs.drop 0) J (us W E)) : List (List Int)) = pats W E T J zs := by rw [List.nil_append, ext_nil]; rfl
set_option linter.unusedSimpArgs false in
set_option maxRecDepth 100000 in
set_option maxHeartbeats 4000000 in
theorem check_any (W E T J : Int) (a : Option Addr) (c n : Nat) (zs : List Int) (w : World) (r : Rds Nn w 1 a n (ints zs)) (hn : n = zs.length) (hl : n ≤ maxLen) : Calls Try.prog 43 #[.agg #[.int .i64 W, .int .i64 E, .int .i64 T, .int .i64 J, .slice a n c]] w fun e w' => e = .returned (.int .i64 (chkErr W E T J zs)) ∧ Below w.heap.size w w' := by
  have RR := hid r
  have HN := hid hn
  clear r hn
  have D0 := hid (Blk.at_new w (b := w.heap.size) (t := 32) (cs := #[.int .i64 W, .int .i64 E, .int .i64 T, .int .i64 J, .slice a n c]) rfl)
  have B0 := hid ((Below.refl w.heap.size w).alloc (Nat.le_refl _) (.cells #[.int .i64 W, .int .i64 E, .int .i64 T, .int .i64 J, .slice a n c] 32))
  go_enter Try.func43, Try.ntmps43
  go_wp2_with (refine wpList_load_blk2 (t := 32) rfl rfl rfl Try.underlying32 rfl (by kernel_rfl) D0.out ?_)
  refine (ranges_any W E T J a c n zs _ (RR.out.below B0.out) HN.out hl).mono ?_
  rintro e w1 ⟨rfl, hb⟩
  have D1 := hid (D0.out.below hb D0.out.lt)
  have B1 := hid (B0.out.trans (hb.mono B0.out.size))
  clear hb
  by_cases hz : dkErr W E T J zs = 0
  rotate_left
  · have hz2 : (dkErr W E T J zs != 0) = true := by simpa using hz
    have R : Hid (dkErr W E T J zs = chkErr W E T J zs) := hid (by unfold chkErr; rw [if_pos hz])
    clear hz
    go_wp2
    go_ret
    exact ⟨ret_i R.out, B1.out⟩
  have HZ := hid hz
  have HR := hid (dk_right hz)
  rw [hz]
  clear hz
  go_wp2_with (refine wpList_load_blk2 (t := 32) rfl rfl rfl Try.underlying32 rfl (by kernel_rfl) D1.out ?_)
  refine (list_any W E T J a c n 1025 zs _ (RR.out.below B1.out) HN.out HR.out (by omega)).mono ?_
  rintro e w2 ⟨u, vs, rfl, hu, _, hb⟩
  have B2 := hid (B1.out.trans (hb.mono B1.out.size))
  obtain ⟨A, cap, rfl, _, _⟩ := own_form hu
  clear hu hb
  obtain ⟨N, hN⟩ : ∃ N, (pats W E T J zs).length = N := ⟨_, rfl⟩
  have hlen : ((pats W E T J zs).take 1025).length = min 1025 N := by rw [List.length_take, hN]
  rw [hlen]
  by_cases h8 : 1024 < N
  · have R : Hid (8 = chkErr W E T J zs) := hid (by unfold chkErr; rw [if_neg (fun e => e HZ.out), if_pos (by rw [hN]; exact h8)])
    rw [show min 1025 N = 1025 by omega]
    clear h8 hlen hN
    go_wp2
    go_ret
    exact ⟨ret_i R.out, B2.out⟩
  · have R : Hid (0 = chkErr W E T J zs) := hid (by unfold chkErr; rw [if_neg (fun e => e HZ.out), if_neg (by rw [hN]; exact h8)])
    rw [show min 1025 N = N by omega]
    clear hlen hN
    go_wp2
    go_ret
    exact ⟨ret_i R.out, B2.out⟩
set_option linter.unusedSimpArgs false in
set_option maxRecDepth 100000 in
set_option maxHeartbeats 4000000 in
theorem rcheck_any (W E T J : Int) (a : Option Addr) (c n : Nat) (zs : List Int) (w : World) (r : Rds Nn w 1 a n (ints zs)) (hn : n = zs.length) (hl : n ≤ maxLen) : Calls Try.prog 47 #[.agg #[.int .i64 W, .int .i64 E, .int .i64 T, .int .i64 J, .slice a n c]] w fun e w' => e = .returned (.int .i64 (chkErr W E T J zs)) ∧ Below w.heap.size w w' := by
  have RR := hid r
  have HN := hid hn
  clear r hn
  have D0 := hid (Blk.at_new w (b := w.heap.size) (t := 32) (cs := #[.int .i64 W, .int .i64 E, .int .i64 T, .int .i64 J, .slice a n c]) rfl)
  have B0 := hid ((Below.refl w.heap.size w).alloc (Nat.le_refl _) (.cells #[.int .i64 W, .int .i64 E, .int .i64 T, .int .i64 J, .slice a n c] 32))
  go_enter Try.func47, Try.ntmps47
  go_wp2_with (refine wpList_load_blk2 (t := 32) rfl rfl rfl Try.underlying32 rfl (by kernel_rfl) D0.out ?_)
  refine (right_any W E T J a c n zs _ (RR.out.below B0.out) HN.out hl).mono ?_
  rintro e w1 ⟨rfl, hb⟩
  have D1 := hid (D0.out.below hb D0.out.lt)
  have B1 := hid (B0.out.trans (hb.mono B0.out.size))
  clear hb
  by_cases hz : dkErr W E T J zs = 0
  rotate_left
  · have hz2 : (dkErr W E T J zs != 0) = true := by simpa using hz
    have R : Hid (dkErr W E T J zs = chkErr W E T J zs) := hid (by unfold chkErr; rw [if_pos hz])
    clear hz
    go_wp2
    go_ret
    exact ⟨ret_i R.out, B1.out⟩
  have HZ := hid hz
  have HR := hid (dk_right hz)
  have ub := us_pos HR.out
  have kb := HR.out.k
  have wb := HR.out.w
  have eb := HR.out.e
  rw [hz]
  clear hz
  obtain ⟨N, hN⟩ : ∃ N, (pats W E T J zs).length = N := ⟨_, rfl⟩
  have hlen : ((pats W E T J zs).take (1024 + 1)).length = min 1025 N := by rw [List.length_take, hN]
  have hN2 := hid hN
  clear hN
  by_cases h8 : 1024 < N
  · have R : Hid (8 = chkErr W E T J zs) := hid (by unfold chkErr; rw [if_neg (fun e => e HZ.out), if_pos (by rw [hN2.out]; exact h8)])
    rw [show min 1025 N = 1025 by omega] at hlen
    go_upto_region 4 with fail
    refine wp_region_hand (fun w' => Blk w' w.heap.size 32 #[.int .i64 W, .int .i64 E, .int .i64 T, .int .i64 J, .slice a n c]) (by kernel_rfl) ?_
    simp only [List.length_cons, List.length_nil, Nat.zero_add, Nat.reduceAdd]
    have hS : Blk w1.drew w.heap.size 32 #[.int .i64 W, .int .i64 E, .int .i64 T, .int .i64 J, .slice a n c] := D1.out
    refine take_at (i := 0) (v := .agg #[.int .i64 W, .int .i64 E, .int .i64 T, .int .i64 J, .slice a n c]) rfl rfl (by kernel_rfl) (by kernel_rfl) (by kernel_rfl) (fun _ _ _ h => h) (Or.inl ⟨by rfl, fun wi hSw => exec_loads (p := .pointer (some ⟨w.heap.size, 0, none⟩)) rfl rfl (load_blk hSw Try.underlying32 rfl (by kernel_rfl))⟩) hS ?_
    try simp only [List.setIfInBounds_toArray, List.set_cons_zero, List.set_cons_succ]
    refine take_at (i := 1) (v := ?_) rfl rfl (by kernel_rfl) (by kernel_rfl) (by kernel_rfl) (fun _ _ _ h => h) (Or.inl ⟨by rfl, ?_⟩) hS ?_
    rotate_left
    · intro w hSw; (try dsimp only at hSw); go_simp; try with_reducible rfl
    try simp only [List.setIfInBounds_toArray, List.set_cons_zero, List.set_cons_succ]
    refine take_at (i := 2) (v := ?_) rfl rfl (by kernel_rfl) (by kernel_rfl) (by kernel_rfl) (fun _ _ _ h => h) (Or.inl ⟨by rfl, ?_⟩) hS ?_
    rotate_left
    · intro wi hSw; have ci0 := hSw.cell; go_simp; try with_reducible rfl
    try simp only [List.setIfInBounds_toArray, List.set_cons_zero, List.set_cons_succ]
    refine take_at (i := 3) (v := .agg #[.int .i64 W, .int .i64 E, .int .i64 T, .int .i64 J, .slice a n c]) rfl rfl (by kernel_rfl) (by kernel_rfl) (by kernel_rfl) (fun _ _ _ h => h) (Or.inl ⟨by rfl, fun wi hSw => exec_loads (p := .pointer (some ⟨w.heap.size, 0, none⟩)) rfl rfl (load_blk hSw Try.underlying32 rfl (by kernel_rfl))⟩) hS ?_
    try simp only [List.setIfInBounds_toArray, List.set_cons_zero, List.set_cons_succ]
    refine wpAnyH_ready (rs := [4]) (by kernel_rfl) (by simp) ?_
    refine AllReadyH.cons rfl (fun K hK => ?_) AllReadyH.nil
    go_simp
    (go_at_call 64; refine (rusable_any W E T J _ _ (by omega) (by omega)).mono ?_; rintro e w2 ⟨rfl, hb⟩; have D2 := hid (D1.out.below (show Below w1.heap.size w1 w2 from (Below.drew (Below.refl _ _)).trans hb) D1.out.lt); have B2 := hid (B1.out.trans ((show Below w1.heap.size w1 w2 from (Below.drew (Below.refl _ _)).trans hb).mono B1.out.size)); clear hb hS)
    refine hK.out _ _ D2.out (fun hS => ?_)
    clear hK K
    try simp only [Act.put, List.setIfInBounds_toArray, List.set_cons_zero, List.set_cons_succ]
    refine wpAnyH_ready (rs := [5]) (by kernel_rfl) (by simp) ?_
    refine AllReadyH.cons rfl (fun K hK => ?_) AllReadyH.nil
    go_simp
    (refine (all_any W E T J a c n 1024 zs HN.out HR.out (by omega) n 0 [] J (us W E) none none 0 0 [] [] _ (RR.out.below B2.out) (Rds.nil _ _ _ _) (Rds.nil _ _ _ _) (PRow.nil _ _) (Nat.zero_add n) rfl (by intro x hx; cases hx) (by simp [sumI]) (by simp [dot]) (by omega) (by omega) (by simp)).mono ?_; rintro e w3 ⟨A, cap, vs, rfl, hr3, hp3, hb⟩; rw [pats_all] at hr3 hp3 ⊢; have D3 := hid (D2.out.below hb D2.out.lt); have B3 := hid (B2.out.trans (hb.mono B2.out.size)); have R3 := hid hr3; have P3 := hid hp3; clear hb hS hr3 hp3)
    refine hK.out _ _ D3.out (fun hS => ?_)
    clear hK K
    try simp only [Act.put, List.setIfInBounds_toArray, List.set_cons_zero, List.set_cons_succ]
    rw [hlen]
    refine take_at (i := 6) (v := ?_) rfl rfl (by kernel_rfl) (by kernel_rfl) (by kernel_rfl) (fun _ _ _ h => h) (Or.inl ⟨by rfl, ?_⟩) hS ?_
    rotate_left
    · intro w hSw; (try dsimp only at hSw); go_simp; try with_reducible rfl
    try simp only [List.setIfInBounds_toArray, List.set_cons_zero, List.set_cons_succ]
    refine take_at (i := 7) (v := ?_) rfl rfl (by kernel_rfl) (by kernel_rfl) (by kernel_rfl) (fun _ _ _ h => h) (Or.inl ⟨by rfl, ?_⟩) hS ?_
    rotate_left
    · intro w hSw; (try dsimp only at hSw); go_simp; try with_reducible rfl
    try simp only [List.setIfInBounds_toArray, List.set_cons_zero, List.set_cons_succ]
    refine wpAnyH_done (by kernel_rfl) ?_ _
    simp only [Sure, Exit.then]
    clear hS
    go_wp2
    go_ret
    exact ⟨ret_i R.out, B3.out⟩
  · have R : Hid (0 = chkErr W E T J zs) := hid (by unfold chkErr; rw [if_neg (fun e => e HZ.out), if_neg (by rw [hN2.out]; exact h8)])
    rw [show min 1025 N = N by omega] at hlen
    go_upto_region 4 with fail
    refine wp_region_hand (fun w' => Blk w' w.heap.size 32 #[.int .i64 W, .int .i64 E, .int .i64 T, .int .i64 J, .slice a n c]) (by kernel_rfl) ?_
    simp only [List.length_cons, List.length_nil, Nat.zero_add, Nat.reduceAdd]
    have hS : Blk w1.drew w.heap.size 32 #[.int .i64 W, .int .i64 E, .int .i64 T, .int .i64 J, .slice a n c] := D1.out
    refine take_at (i := 0) (v := .agg #[.int .i64 W, .int .i64 E, .int .i64 T, .int .i64 J, .slice a n c]) rfl rfl (by kernel_rfl) (by kernel_rfl) (by kernel_rfl) (fun _ _ _ h => h) (Or.inl ⟨by rfl, fun wi hSw => exec_loads (p := .pointer (some ⟨w.heap.size, 0, none⟩)) rfl rfl (load_blk hSw Try.underlying32 rfl (by kernel_rfl))⟩) hS ?_
    try simp only [List.setIfInBounds_toArray, List.set_cons_zero, List.set_cons_succ]
    refine take_at (i := 1) (v := ?_) rfl rfl (by kernel_rfl) (by kernel_rfl) (by kernel_rfl) (fun _ _ _ h => h) (Or.inl ⟨by rfl, ?_⟩) hS ?_
    rotate_left
    · intro w hSw; (try dsimp only at hSw); go_simp; try with_reducible rfl
    try simp only [List.setIfInBounds_toArray, List.set_cons_zero, List.set_cons_succ]
    refine take_at (i := 2) (v := ?_) rfl rfl (by kernel_rfl) (by kernel_rfl) (by kernel_rfl) (fun _ _ _ h => h) (Or.inl ⟨by rfl, ?_⟩) hS ?_
    rotate_left
    · intro wi hSw; have ci0 := hSw.cell; go_simp; try with_reducible rfl
    try simp only [List.setIfInBounds_toArray, List.set_cons_zero, List.set_cons_succ]
    refine take_at (i := 3) (v := .agg #[.int .i64 W, .int .i64 E, .int .i64 T, .int .i64 J, .slice a n c]) rfl rfl (by kernel_rfl) (by kernel_rfl) (by kernel_rfl) (fun _ _ _ h => h) (Or.inl ⟨by rfl, fun wi hSw => exec_loads (p := .pointer (some ⟨w.heap.size, 0, none⟩)) rfl rfl (load_blk hSw Try.underlying32 rfl (by kernel_rfl))⟩) hS ?_
    try simp only [List.setIfInBounds_toArray, List.set_cons_zero, List.set_cons_succ]
    refine wpAnyH_ready (rs := [4]) (by kernel_rfl) (by simp) ?_
    refine AllReadyH.cons rfl (fun K hK => ?_) AllReadyH.nil
    go_simp
    (go_at_call 64; refine (rusable_any W E T J _ _ (by omega) (by omega)).mono ?_; rintro e w2 ⟨rfl, hb⟩; have D2 := hid (D1.out.below (show Below w1.heap.size w1 w2 from (Below.drew (Below.refl _ _)).trans hb) D1.out.lt); have B2 := hid (B1.out.trans ((show Below w1.heap.size w1 w2 from (Below.drew (Below.refl _ _)).trans hb).mono B1.out.size)); clear hb hS)
    refine hK.out _ _ D2.out (fun hS => ?_)
    clear hK K
    try simp only [Act.put, List.setIfInBounds_toArray, List.set_cons_zero, List.set_cons_succ]
    refine wpAnyH_ready (rs := [5]) (by kernel_rfl) (by simp) ?_
    refine AllReadyH.cons rfl (fun K hK => ?_) AllReadyH.nil
    go_simp
    (refine (all_any W E T J a c n 1024 zs HN.out HR.out (by omega) n 0 [] J (us W E) none none 0 0 [] [] _ (RR.out.below B2.out) (Rds.nil _ _ _ _) (Rds.nil _ _ _ _) (PRow.nil _ _) (Nat.zero_add n) rfl (by intro x hx; cases hx) (by simp [sumI]) (by simp [dot]) (by omega) (by omega) (by simp)).mono ?_; rintro e w3 ⟨A, cap, vs, rfl, hr3, hp3, hb⟩; rw [pats_all] at hr3 hp3 ⊢; have D3 := hid (D2.out.below hb D2.out.lt); have B3 := hid (B2.out.trans (hb.mono B2.out.size)); have R3 := hid hr3; have P3 := hid hp3; clear hb hS hr3 hp3)
    refine hK.out _ _ D3.out (fun hS => ?_)
    clear hK K
    try simp only [Act.put, List.setIfInBounds_toArray, List.set_cons_zero, List.set_cons_succ]
    rw [hlen]
    refine take_at (i := 6) (v := ?_) rfl rfl (by kernel_rfl) (by kernel_rfl) (by kernel_rfl) (fun _ _ _ h => h) (Or.inl ⟨by rfl, ?_⟩) hS ?_
    rotate_left
    · intro w hSw; (try dsimp only at hSw); go_simp; try with_reducible rfl
    try simp only [List.setIfInBounds_toArray, List.set_cons_zero, List.set_cons_succ]
    refine take_at (i := 7) (v := ?_) rfl rfl (by kernel_rfl) (by kernel_rfl) (by kernel_rfl) (fun _ _ _ h => h) (Or.inl ⟨by rfl, ?_⟩) hS ?_
    rotate_left
    · intro w hSw; (try dsimp only at hSw); go_simp; try with_reducible rfl
    try simp only [List.setIfInBounds_toArray, List.set_cons_zero, List.set_cons_succ]
    refine wpAnyH_done (by kernel_rfl) ?_ _
    simp only [Sure, Exit.then]
    clear hS
    go_wp2
    go_ret
    exact ⟨ret_i R.out, B3.out⟩
end Go.Proofs.Ytccgbojcghbdcaa
