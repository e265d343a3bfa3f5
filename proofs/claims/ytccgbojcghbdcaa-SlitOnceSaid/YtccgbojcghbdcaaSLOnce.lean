/- SlitOnce: for every input the law returns true. No condition. -/
import Derived.Test.YtccgbojcghbdcaaLaw39
import Derived.Test.YtccgbojcghbdcaaSPlain2
namespace Go.Proofs.Ytccgbojcghbdcaa
open Go.RowKit

set_option linter.unusedSimpArgs false in
set_option maxRecDepth 100000 in
set_option maxHeartbeats 16000000 in
theorem slitOnce_in (W L : Int) (a : Option Addr) (c n : Nat) (l : List (List Int)) (U K W2 L2 : Int) (a2 : Option Addr) (c2 n2 : Nat) (l2 : List (List Int)) (U2 K2 r0 r1 : Int) (w : World) (r : Rds Nn w 2 a n (ints l.flatten)) (t : ∀ s ∈ l, s.length = 2) (hn : n = l.length) (hl : n ≤ maxLen) (r2 : Rds Nn w 2 a2 n2 (ints l2.flatten)) (t2 : ∀ s ∈ l2, s.length = 2) (hn2 : n2 = l2.length) (hl2 : n2 ≤ maxLen) : Calls Try.prog 8 #[.agg #[.int .i64 W, .int .i64 L, .slice a n c, .int .i64 U, .int .i64 K], .agg #[.int .i64 W2, .int .i64 L2, .slice a2 n2 c2, .int .i64 U2, .int .i64 K2], .agg #[.int .i64 r0, .int .i64 r1]] w fun e w' => e = .returned (.bool true) ∧ Below w.heap.size w w' := by
  have R1 := hid r
  have T := hid t
  have HN := hid hn
  have R2 := hid r2
  have T2 := hid t2
  have HN2 := hid hn2
  clear r t hn r2 t2 hn2
  have D0 := hid (Blk.alloc (Blk.alloc (Blk.at_new w (b := w.heap.size) (t := 36) (cs := #[.int .i64 W, .int .i64 L, .slice a n c, .int .i64 U, .int .i64 K]) rfl) (.cells #[.int .i64 W2, .int .i64 L2, .slice a2 n2 c2, .int .i64 U2, .int .i64 K2] 36)) (.cells #[.int .i64 r0, .int .i64 r1] 60))
  have Y0 := hid (Blk.alloc (Blk.at_new (w.alloc (.cells #[.int .i64 W, .int .i64 L, .slice a n c, .int .i64 U, .int .i64 K] 36)) (b := w.heap.size + 1) (t := 36) (cs := #[.int .i64 W2, .int .i64 L2, .slice a2 n2 c2, .int .i64 U2, .int .i64 K2]) (by simp)) (.cells #[.int .i64 r0, .int .i64 r1] 60))
  have P0 := hid (Blk.at_new ((w.alloc (.cells #[.int .i64 W, .int .i64 L, .slice a n c, .int .i64 U, .int .i64 K] 36)).alloc (.cells #[.int .i64 W2, .int .i64 L2, .slice a2 n2 c2, .int .i64 U2, .int .i64 K2] 36)) (b := w.heap.size + 2) (t := 60) (cs := #[.int .i64 r0, .int .i64 r1]) (by simp))
  have B0 := hid ((((Below.refl w.heap.size w).alloc (Nat.le_refl _) (.cells #[.int .i64 W, .int .i64 L, .slice a n c, .int .i64 U, .int .i64 K] 36)).alloc (by simp) (.cells #[.int .i64 W2, .int .i64 L2, .slice a2 n2 c2, .int .i64 U2, .int .i64 K2] 36)).alloc (by simp <;> omega) (.cells #[.int .i64 r0, .int .i64 r1] 60))
  have c0 := D0.out.cell
  have y0 := Y0.out.cell
  go_enter Try.func8, Try.ntmps8
  by_cases h20 : n ≤ 12
  rotate_left
  · have h21 : ((12 : Int) < n) := by omega
    go_wp2_with fail
    refine (awake_any _).mono ?_
    rintro e wz ⟨rfl, hb⟩
    go_wp2
    go_ret
    exact ⟨rfl, B0.out.trans (hb.mono B0.out.size)⟩
  have h21 : ¬ ((12 : Int) < n) := by omega
  by_cases h22 : n2 ≤ 12
  rotate_left
  · have h23 : ((12 : Int) < n2) := by omega
    go_wp2_with fail
    refine (awake_any _).mono ?_
    rintro e wz ⟨rfl, hb⟩
    go_wp2
    go_ret
    exact ⟨rfl, B0.out.trans (hb.mono B0.out.size)⟩
  have h23 : ¬ ((12 : Int) < n2) := by omega
  go_upto_region 3 with fail
  clear c0 y0
  have d0 := D0.out.cell
  have e0 := Y0.out.cell
  have f0 := Y0.out.frozen
  have g0 := (Y0.out.set 0 (.int .i64 W)).frozen
  have h0 := (D0.out.other (a := ⟨w.heap.size + 1, 0, none⟩) (show w.heap.size ≠ w.heap.size + 1 by omega) (.int .i64 W)).cell
  have h1 := (Y0.out.set 0 (.int .i64 W)).cell
  generalize (((w.alloc (.cells #[.int .i64 W, .int .i64 L, .slice a n c, .int .i64 U, .int .i64 K] 36)).alloc (.cells #[.int .i64 W2, .int .i64 L2, .slice a2 n2 c2, .int .i64 U2, .int .i64 K2] 36)).alloc (.cells #[.int .i64 r0, .int .i64 r1] 60)) = w0 at *
  go_region_with fail
  all_goals
    simp only [Exit.then]
    clear d0 e0 f0 g0 h0 h1
    have D1 := hid (Blk.drew (Blk.other (Blk.other D0.out (a := ⟨w.heap.size + 1, 0, none⟩) (show w.heap.size ≠ w.heap.size + 1 by omega) (.int .i64 W)) (a := ⟨w.heap.size + 1, 1, none⟩) (show w.heap.size ≠ w.heap.size + 1 by omega) (.int .i64 L)))
    have P1 := hid (Blk.drew (Blk.other (Blk.other P0.out (a := ⟨w.heap.size + 1, 0, none⟩) (show w.heap.size + 2 ≠ w.heap.size + 1 by omega) (.int .i64 W)) (a := ⟨w.heap.size + 1, 1, none⟩) (show w.heap.size + 2 ≠ w.heap.size + 1 by omega) (.int .i64 L)))
    have Y1 := hid (show Blk ((w0.setCell ⟨w.heap.size + 1, 0, none⟩ (.int .i64 W)).setCell ⟨w.heap.size + 1, 1, none⟩ (.int .i64 L)).drew (w.heap.size + 1) 36 #[.int .i64 W, .int .i64 L, .slice a2 n2 c2, .int .i64 U2, .int .i64 K2] from Blk.drew ((Y0.out.set 0 (.int .i64 W)).set 1 (.int .i64 L)))
    have B1 := hid (((((Chg.refl (fun g => g = w.heap.size + 1) w0).setCell (a := ⟨w.heap.size + 1, 0, none⟩) (.inl rfl) (.int .i64 W)).setCell (a := ⟨w.heap.size + 1, 1, none⟩) (.inl rfl) (.int .i64 L)).drew).then_below B0.out (fun b hb e => by omega) B0.out.size)
    clear D0 P0 Y0 B0
    generalize ((w0.setCell ⟨w.heap.size + 1, 0, none⟩ (.int .i64 W)).setCell ⟨w.heap.size + 1, 1, none⟩ (.int .i64 L)).drew = w1 at *
    go_wp2_with (refine wpList_load_blk2 (t := 36) rfl rfl rfl Try.underlying36 rfl (by kernel_rfl) D1.out ?_)
    refine (set39_any W L a c n l U K _ (R1.out.below B1.out) T.out HN.out hl).mono ?_
    rintro e w2 ⟨A3, c3, vs3, rfl, hr, hp, hb⟩
    have RA := hid hr
    have PA := hid hp
    have B2 := hid (B1.out.trans (hb.mono B1.out.size))
    have D2 := hid (D1.out.below hb D1.out.lt)
    have P2 := hid (P1.out.below hb P1.out.lt)
    have Y2 := hid (Y1.out.below hb Y1.out.lt)
    clear hb hr hp D1 P1 Y1
    go_wp2_with (refine wpList_load_blk2 (t := 36) rfl rfl rfl Try.underlying36 rfl (by kernel_rfl) Y2.out ?_)
    refine (set39_any W L a2 c2 n2 l2 U2 K2 _ (R2.out.below B2.out) T2.out HN2.out hl2).mono ?_
    rintro e w3 ⟨A4, c4, vs4, rfl, hr, hp, hb⟩
    have RB := hid hr
    have PB := hid hp
    have RA3 := hid (RA.out.below hb)
    have PA3 := hid (PA.out.below hb)
    have B3 := hid (B2.out.trans (hb.mono B2.out.size))
    have D3 := hid (D2.out.below hb D2.out.lt)
    have P3 := hid (P2.out.below hb P2.out.lt)
    have Y3 := hid (Y2.out.below hb Y2.out.lt)
    clear hb hr hp D2 P2 Y2 RA PA
    have c3' := D3.out.cell
    have y3 := Y3.out.cell
    by_cases se1 : setErr W L l U K = 0
    rotate_left
    · have hz2 : (setErr W L l U K != 0) = true := by simpa using se1
      go_wp2_with fail
      refine (awake_any _).mono ?_
      rintro e wz ⟨rfl, hb⟩
      go_wp2
      go_ret
      exact ⟨rfl, B3.out.trans (hb.mono B3.out.size)⟩
    by_cases se2 : setErr W L l2 U2 K2 = 0
    rotate_left
    · have hz2 : (setErr W L l2 U2 K2 != 0) = true := by simpa using se2
      rw [se1]
      go_wp2_with fail
      refine (awake_any _).mono ?_
      rintro e wz ⟨rfl, hb⟩
      go_wp2
      go_ret
      exact ⟨rfl, B3.out.trans (hb.mono B3.out.size)⟩
    have SE1 := hid se1
    have SE2 := hid se2
    have hln1 := (setL_at se1).2
    have hln2 := (setL_at se2).2
    rw [se1, se2]
    rw [← HN.out] at hln1
    rw [← HN2.out] at hln2
    rw [hln1] at RA3 ⊢
    rw [hln2] at RB ⊢
    have HL1 := hid hln1
    have HL2 := hid hln2
    obtain ⟨_, ⟨k1, k2⟩, ⟨k3, k4⟩, ⟨k5, k6⟩, k7⟩ := set_facts se1
    obtain ⟨_, _, ⟨m3, m4⟩, ⟨m5, m6⟩, m7⟩ := set_facts se2
    clear se1 se2 hln1 hln2
    have wu : IntKind.i64.wrap (U + K) = U + K := IntWalk.i64_in _ (by omega)
    by_cases hu : U2 < U + K
    · skip
      go_wp2_with fail
      refine (awake_any _).mono ?_
      rintro e wz ⟨rfl, hb⟩
      go_wp2
      go_ret
      exact ⟨rfl, B3.out.trans (hb.mono B3.out.size)⟩
    go_wp2
    clear c3' y3
    go_loopw [11] (fun ui wq => ∃ i : Nat, i ≤ n ∧ ui = .int .i64 i ∧ Below w3.heap.size w3 wq) (fun ui _ => n - (intOf ui).toNat)
    case atStart => exact ⟨0, Nat.zero_le _, rfl, Below.refl _ _⟩
    case round =>
      obtain ⟨i, hi, rfl, hbel⟩ := hrel
      have BB := hid hbel
      clear hbel
      by_cases hin : i < n
      · obtain ⟨_, _, p, q, ha_, hb_, hpq, hc_⟩ := cells_at R1.out T.out HN.out hin
        clear ha_ hb_ hc_
        obtain ⟨ps, os, p', q', t', m', A', c', rfl, hm, rk, hch⟩ := chrow_at RA3.out PA3.out HL1.out.symm hin
        have hm2 := hm.symm.trans (setL_get SE1.out hpq)
        injection hm2 with hm2
        simp only [Prod.mk.injEq] at hm2
        obtain ⟨rfl, rfl, rfl, rfl⟩ := hm2
        have CH : Hid (∀ W_1, Below w3.heap.size w3 W_1 → W_1.cell? ⟨ps, os + i * 4, none⟩ = some (.int .i64 p') ∧ W_1.cell? ⟨ps, os + i * 4 + 1, none⟩ = some (.int .i64 q') ∧ W_1.cell? ⟨ps, os + i * 4 + 2, none⟩ = some (.bool false) ∧ W_1.cell? ⟨ps, os + i * 4 + 3, none⟩ = some (.slice A' 1 c')) := hid hch
        have RK : Hid (Rds Nn w3 3 A' 1 (cellsR (runW L U K))) := hid rk
        have HPQ := hid hpq
        obtain ⟨_, q1, q2, q3, q4⟩ := pl_set SE1.out (List.mem_of_getElem? hpq)
        clear hm hch rk hpq
        have wk1 : IntKind.i64.wrap ((i : Int) + 1) = i + 1 := IntWalk.i64_in _ (by omega)
        have hmx : max (1 : Int) K = K := by omega
        go_upto_region 11 with fail
        refine wp_region_hand (fun w' => Below w3.heap.size w3 w') (by kernel_rfl) ?_
        simp only [List.length_cons, List.length_nil, Nat.zero_add, Nat.reduceAdd]
        have hS : Below w3.heap.size w3 wr.drew := Below.drew BB.out
        refine take_at (i := 0) (v := ?_) rfl rfl (by kernel_rfl) (by kernel_rfl) (by kernel_rfl) (fun _ _ _ h => h) (Or.inl ⟨by rfl, ?_⟩) hS ?_
        rotate_left
        · intro w hSw; (try dsimp only at hSw); go_simp; try with_reducible rfl
        try simp only [List.setIfInBounds_toArray, List.set_cons_zero, List.set_cons_succ]
        refine take_at (i := 1) (v := ?_) rfl rfl (by kernel_rfl) (by kernel_rfl) (by kernel_rfl) (fun _ _ _ h => h) (Or.inl ⟨by rfl, ?_⟩) hS ?_
        rotate_left
        · intro w hSw; (try dsimp only at hSw); go_simp; try with_reducible rfl
        try simp only [List.setIfInBounds_toArray, List.set_cons_zero, List.set_cons_succ]
        refine take_at (i := 2) (v := ?_) rfl rfl (by kernel_rfl) (by kernel_rfl) (by kernel_rfl) (fun _ _ _ h => h) (Or.inl ⟨by rfl, ?_⟩) hS ?_
        rotate_left
        · intro w hSw; (try dsimp only at hSw); go_simp; try with_reducible rfl
        try simp only [List.setIfInBounds_toArray, List.set_cons_zero, List.set_cons_succ]
        refine take_at (i := 3) (v := .agg #[.int .i64 p', .int .i64 q', .bool false, .slice A' 1 c']) rfl rfl (by kernel_rfl) (by kernel_rfl) (by kernel_rfl) (fun _ _ _ h => h) (Or.inl ⟨by rfl, fun wi hSw => exec_loads (p := .pointer (some ⟨ps, os + i * 4, none⟩)) rfl rfl (load_four (CH.out _ hSw).1 (CH.out _ hSw).2.1 (CH.out _ hSw).2.2.1 (CH.out _ hSw).2.2.2 Try.underlying47 rfl (by kernel_rfl))⟩) hS ?_
        try simp only [List.setIfInBounds_toArray, List.set_cons_zero, List.set_cons_succ]
        refine take_at (i := 4) (v := ?_) rfl rfl (by kernel_rfl) (by kernel_rfl) (by kernel_rfl) (fun _ _ _ h => h) (Or.inl ⟨by rfl, ?_⟩) hS ?_
        rotate_left
        · intro w hSw; (try dsimp only at hSw); go_simp; try with_reducible rfl
        try simp only [List.setIfInBounds_toArray, List.set_cons_zero, List.set_cons_succ]
        refine take_at (i := 5) (v := ?_) rfl rfl (by kernel_rfl) (by kernel_rfl) (by kernel_rfl) (fun _ _ _ h => h) (Or.inl ⟨by rfl, ?_⟩) hS ?_
        rotate_left
        · intro wi hSw; have ci0 := (P3.out.below hSw P3.out.lt).cell; go_simp; try with_reducible rfl
        try simp only [List.setIfInBounds_toArray, List.set_cons_zero, List.set_cons_succ]
        refine take_at (i := 6) (v := ?_) rfl rfl (by kernel_rfl) (by kernel_rfl) (by kernel_rfl) (fun _ _ _ h => h) (Or.inl ⟨by rfl, ?_⟩) hS ?_
        rotate_left
        · intro w hSw; (try dsimp only at hSw); go_simp; try with_reducible rfl
        try simp only [List.setIfInBounds_toArray, List.set_cons_zero, List.set_cons_succ]
        refine take_at (i := 7) (v := ?_) rfl rfl (by kernel_rfl) (by kernel_rfl) (by kernel_rfl) (fun _ _ _ h => h) (Or.inl ⟨by rfl, ?_⟩) hS ?_
        rotate_left
        · intro wi hSw; have ci0 := (D3.out.below hSw D3.out.lt).cell; go_simp; try with_reducible rfl
        try simp only [List.setIfInBounds_toArray, List.set_cons_zero, List.set_cons_succ]
        refine take_at (i := 8) (v := ?_) rfl rfl (by kernel_rfl) (by kernel_rfl) (by kernel_rfl) (fun _ _ _ h => h) (Or.inl ⟨by rfl, ?_⟩) hS ?_
        rotate_left
        · intro w hSw; (try dsimp only at hSw); go_simp; try with_reducible rfl
        try simp only [List.setIfInBounds_toArray, List.set_cons_zero, List.set_cons_succ]
        refine wpAnyH_ready (rs := [9]) (by kernel_rfl) (by simp) ?_
        refine AllReadyH.cons rfl (fun KK hK => ?_) AllReadyH.nil
        go_simp
        try rw [hmx]
        (go_at_call 27; refine (pick_any r0 K _ (by omega)).mono ?_; rintro e wp ⟨v1, rfl, ha, hwp⟩; have H1 := hid ha; subst hwp; clear ha)
        refine hK.out _ _ hS (fun hS => ?_)
        clear hK KK
        try simp only [Act.put, List.setIfInBounds_toArray, List.set_cons_zero, List.set_cons_succ]
        refine wpAnyH_ready (rs := [10]) (by kernel_rfl) (by simp) ?_
        refine AllReadyH.cons rfl (fun KK hK => ?_) AllReadyH.nil
        go_simp
        (go_at_call 24; refine (place_any p' q' false A' c' 1 (runW L U K) _ (RK.out.below (Below.drew BB.out)) rfl (by omega) 0 v1).mono ?_; rintro e w5 ⟨rfl, hb⟩; have B5 := hid (BB.out.trans (Below.trans (Below.drew (Below.refl wr.heap.size wr)) hb |>.mono BB.out.size)); clear hb)
        refine hK.out _ _ B5.out (fun hS => ?_)
        clear hK KK
        try simp only [Act.put, List.setIfInBounds_toArray, List.set_cons_zero, List.set_cons_succ]
        refine take_at (i := 11) (v := ?_) rfl rfl (by kernel_rfl) (by kernel_rfl) (by kernel_rfl) (fun _ _ _ h => h) (Or.inl ⟨by rfl, ?_⟩) hS ?_
        rotate_left
        · intro w hSw; (try dsimp only at hSw); go_simp; try with_reducible rfl
        try simp only [List.setIfInBounds_toArray, List.set_cons_zero, List.set_cons_succ]
        refine take_at (i := 12) (v := ?_) rfl rfl (by kernel_rfl) (by kernel_rfl) (by kernel_rfl) (fun _ _ _ h => h) (Or.inl ⟨by rfl, ?_⟩) hS ?_
        rotate_left
        · intro w hSw; (try dsimp only at hSw); go_simp; try with_reducible rfl
        try simp only [List.setIfInBounds_toArray, List.set_cons_zero, List.set_cons_succ]
        refine take_at (i := 13) (v := ?_) rfl rfl (by kernel_rfl) (by kernel_rfl) (by kernel_rfl) (fun _ _ _ h => h) (Or.inl ⟨by rfl, ?_⟩) hS ?_
        rotate_left
        · intro w hSw; (try dsimp only at hSw); go_simp; try with_reducible rfl
        try simp only [List.setIfInBounds_toArray, List.set_cons_zero, List.set_cons_succ]
        refine take_at (i := 14) (v := ?_) rfl rfl (by kernel_rfl) (by kernel_rfl) (by kernel_rfl) (fun _ _ _ h => h) (Or.inl ⟨by rfl, ?_⟩) hS ?_
        rotate_left
        · intro w hSw; (try dsimp only at hSw); go_simp; try with_reducible rfl
        try simp only [List.setIfInBounds_toArray, List.set_cons_zero, List.set_cons_succ]
        refine take_at (i := 15) (v := ?_) rfl rfl (by kernel_rfl) (by kernel_rfl) (by kernel_rfl) (fun _ _ _ h => h) (Or.inl ⟨by rfl, ?_⟩) hS ?_
        rotate_left
        · intro w hSw; (try dsimp only at hSw); go_simp; try with_reducible rfl
        try simp only [List.setIfInBounds_toArray, List.set_cons_zero, List.set_cons_succ]
        refine take_at (i := 16) (v := ?_) rfl rfl (by kernel_rfl) (by kernel_rfl) (by kernel_rfl) (fun _ _ _ h => h) (Or.inl ⟨by rfl, ?_⟩) hS ?_
        rotate_left
        · intro w hSw; (try dsimp only at hSw); go_simp; try with_reducible rfl
        try simp only [List.setIfInBounds_toArray, List.set_cons_zero, List.set_cons_succ]
        refine take_at (i := 17) (v := ?_) rfl rfl (by kernel_rfl) (by kernel_rfl) (by kernel_rfl) (fun _ _ _ h => h) (Or.inl ⟨by rfl, ?_⟩) hS ?_
        rotate_left
        · intro w hSw; (try dsimp only at hSw); go_simp; try with_reducible rfl
        try simp only [List.setIfInBounds_toArray, List.set_cons_zero, List.set_cons_succ]
        refine wpAnyH_done (by kernel_rfl) ?_ _
        simp only [Sure, Exit.then]
        clear hS
        try simp only [Exit.inBlock, Exit.then]
        obtain ⟨g1, g2, g3⟩ := pl_in (x := 0) (y := v1) SE1.out (List.mem_of_getElem? HPQ.out) (by omega) H1.out
        rw [g1, g2, g3]
        clear g1 g2 g3 hmx
        obtain ⟨h1a, h1b⟩ := H1.out
        go_wp2
        go_loopw [15] (fun uj wq => ∃ j : Nat, j ≤ n2 ∧ uj = .int .i64 j ∧ Below w3.heap.size w3 wq) (fun uj _ => n2 - (intOf uj).toNat)
        case atStart => exact ⟨0, Nat.zero_le _, rfl, by first | exact B5.out | exact Below.drew B5.out⟩
        case round =>
          obtain ⟨j, hj, rfl, hbel2⟩ := hrel
          have BC := hid hbel2
          clear hbel2
          by_cases hjn : j < n2
          · obtain ⟨_, _, p2, q2', ha_, hb_, hpq2, hc_⟩ := cells_at R2.out T2.out HN2.out hjn
            clear ha_ hb_ hc_
            obtain ⟨ps2, os2, p3, q3', t3', m3', A6, c6, rfl, hm, rk, hch⟩ := chrow_at RB.out PB.out HL2.out.symm hjn
            have hm2 := hm.symm.trans (setL_get SE2.out hpq2)
            injection hm2 with hm2
            simp only [Prod.mk.injEq] at hm2
            obtain ⟨rfl, rfl, rfl, rfl⟩ := hm2
            have CJ : Hid (∀ W_1, Below w3.heap.size w3 W_1 → W_1.cell? ⟨ps2, os2 + j * 4, none⟩ = some (.int .i64 p3) ∧ W_1.cell? ⟨ps2, os2 + j * 4 + 1, none⟩ = some (.int .i64 q3') ∧ W_1.cell? ⟨ps2, os2 + j * 4 + 2, none⟩ = some (.bool false) ∧ W_1.cell? ⟨ps2, os2 + j * 4 + 3, none⟩ = some (.slice A6 1 c6)) := hid hch
            have RJ : Hid (Rds Nn w3 3 A6 1 (cellsR (runW L U2 K2))) := hid rk
            have HPQ2 := hid hpq2
            obtain ⟨_, s1, s2, s3, s4⟩ := pl_set SE2.out (List.mem_of_getElem? hpq2)
            clear hm hch rk hpq2
            have wj1 : IntKind.i64.wrap ((j : Int) + 1) = j + 1 := IntWalk.i64_in _ (by omega)
            have hmx : max (1 : Int) K2 = K2 := by omega
            go_upto_region 15 with fail
            refine wp_region_hand (fun w' => Below w3.heap.size w3 w') (by kernel_rfl) ?_
            simp only [List.length_cons, List.length_nil, Nat.zero_add, Nat.reduceAdd]
            have hS : Below w3.heap.size w3 wr.drew := Below.drew BC.out
            refine take_at (i := 0) (v := ?_) rfl rfl (by kernel_rfl) (by kernel_rfl) (by kernel_rfl) (fun _ _ _ h => h) (Or.inl ⟨by rfl, ?_⟩) hS ?_
            rotate_left
            · intro w hSw; (try dsimp only at hSw); go_simp; try with_reducible rfl
            try simp only [List.setIfInBounds_toArray, List.set_cons_zero, List.set_cons_succ]
            refine take_at (i := 1) (v := ?_) rfl rfl (by kernel_rfl) (by kernel_rfl) (by kernel_rfl) (fun _ _ _ h => h) (Or.inl ⟨by rfl, ?_⟩) hS ?_
            rotate_left
            · intro w hSw; (try dsimp only at hSw); go_simp; try with_reducible rfl
            try simp only [List.setIfInBounds_toArray, List.set_cons_zero, List.set_cons_succ]
            refine take_at (i := 2) (v := ?_) rfl rfl (by kernel_rfl) (by kernel_rfl) (by kernel_rfl) (fun _ _ _ h => h) (Or.inl ⟨by rfl, ?_⟩) hS ?_
            rotate_left
            · intro w hSw; (try dsimp only at hSw); go_simp; try with_reducible rfl
            try simp only [List.setIfInBounds_toArray, List.set_cons_zero, List.set_cons_succ]
            refine take_at (i := 3) (v := .agg #[.int .i64 p3, .int .i64 q3', .bool false, .slice A6 1 c6]) rfl rfl (by kernel_rfl) (by kernel_rfl) (by kernel_rfl) (fun _ _ _ h => h) (Or.inl ⟨by rfl, fun wi hSw => exec_loads (p := .pointer (some ⟨ps2, os2 + j * 4, none⟩)) rfl rfl (load_four (CJ.out _ hSw).1 (CJ.out _ hSw).2.1 (CJ.out _ hSw).2.2.1 (CJ.out _ hSw).2.2.2 Try.underlying47 rfl (by kernel_rfl))⟩) hS ?_
            try simp only [List.setIfInBounds_toArray, List.set_cons_zero, List.set_cons_succ]
            refine take_at (i := 4) (v := ?_) rfl rfl (by kernel_rfl) (by kernel_rfl) (by kernel_rfl) (fun _ _ _ h => h) (Or.inl ⟨by rfl, ?_⟩) hS ?_
            rotate_left
            · intro w hSw; (try dsimp only at hSw); go_simp; try with_reducible rfl
            try simp only [List.setIfInBounds_toArray, List.set_cons_zero, List.set_cons_succ]
            refine take_at (i := 5) (v := ?_) rfl rfl (by kernel_rfl) (by kernel_rfl) (by kernel_rfl) (fun _ _ _ h => h) (Or.inl ⟨by rfl, ?_⟩) hS ?_
            rotate_left
            · intro wi hSw; have ci0 := (P3.out.below hSw P3.out.lt).cell; go_simp; try with_reducible rfl
            try simp only [List.setIfInBounds_toArray, List.set_cons_zero, List.set_cons_succ]
            refine take_at (i := 6) (v := ?_) rfl rfl (by kernel_rfl) (by kernel_rfl) (by kernel_rfl) (fun _ _ _ h => h) (Or.inl ⟨by rfl, ?_⟩) hS ?_
            rotate_left
            · intro w hSw; (try dsimp only at hSw); go_simp; try with_reducible rfl
            try simp only [List.setIfInBounds_toArray, List.set_cons_zero, List.set_cons_succ]
            refine take_at (i := 7) (v := ?_) rfl rfl (by kernel_rfl) (by kernel_rfl) (by kernel_rfl) (fun _ _ _ h => h) (Or.inl ⟨by rfl, ?_⟩) hS ?_
            rotate_left
            · intro wi hSw; have ci0 := (Y3.out.below hSw Y3.out.lt).cell; go_simp; try with_reducible rfl
            try simp only [List.setIfInBounds_toArray, List.set_cons_zero, List.set_cons_succ]
            refine take_at (i := 8) (v := ?_) rfl rfl (by kernel_rfl) (by kernel_rfl) (by kernel_rfl) (fun _ _ _ h => h) (Or.inl ⟨by rfl, ?_⟩) hS ?_
            rotate_left
            · intro w hSw; (try dsimp only at hSw); go_simp; try with_reducible rfl
            try simp only [List.setIfInBounds_toArray, List.set_cons_zero, List.set_cons_succ]
            refine wpAnyH_ready (rs := [9]) (by kernel_rfl) (by simp) ?_
            refine AllReadyH.cons rfl (fun KK hK => ?_) AllReadyH.nil
            go_simp
            try rw [hmx]
            (go_at_call 27; refine (pick_any r1 K2 _ (by omega)).mono ?_; rintro e wp ⟨v2, rfl, ha, hwp⟩; have H2 := hid ha; subst hwp; clear ha)
            refine hK.out _ _ hS (fun hS => ?_)
            clear hK KK
            try simp only [Act.put, List.setIfInBounds_toArray, List.set_cons_zero, List.set_cons_succ]
            refine wpAnyH_ready (rs := [10]) (by kernel_rfl) (by simp) ?_
            refine AllReadyH.cons rfl (fun KK hK => ?_) AllReadyH.nil
            go_simp
            (go_at_call 24; refine (place_any p3 q3' false A6 c6 1 (runW L U2 K2) _ (RJ.out.below (Below.drew BC.out)) rfl (by omega) 0 v2).mono ?_; rintro e w6 ⟨rfl, hb⟩; have B6 := hid (BC.out.trans (Below.trans (Below.drew (Below.refl wr.heap.size wr)) hb |>.mono BC.out.size)); clear hb)
            refine hK.out _ _ B6.out (fun hS => ?_)
            clear hK KK
            try simp only [Act.put, List.setIfInBounds_toArray, List.set_cons_zero, List.set_cons_succ]
            refine take_at (i := 11) (v := ?_) rfl rfl (by kernel_rfl) (by kernel_rfl) (by kernel_rfl) (fun _ _ _ h => h) (Or.inl ⟨by rfl, ?_⟩) hS ?_
            rotate_left
            · intro w hSw; (try dsimp only at hSw); go_simp; try with_reducible rfl
            try simp only [List.setIfInBounds_toArray, List.set_cons_zero, List.set_cons_succ]
            refine take_at (i := 12) (v := ?_) rfl rfl (by kernel_rfl) (by kernel_rfl) (by kernel_rfl) (fun _ _ _ h => h) (Or.inl ⟨by rfl, ?_⟩) hS ?_
            rotate_left
            · intro w hSw; (try dsimp only at hSw); go_simp; try with_reducible rfl
            try simp only [List.setIfInBounds_toArray, List.set_cons_zero, List.set_cons_succ]
            refine take_at (i := 13) (v := ?_) rfl rfl (by kernel_rfl) (by kernel_rfl) (by kernel_rfl) (fun _ _ _ h => h) (Or.inl ⟨by rfl, ?_⟩) hS ?_
            rotate_left
            · intro w hSw; (try dsimp only at hSw); go_simp; try with_reducible rfl
            try simp only [List.setIfInBounds_toArray, List.set_cons_zero, List.set_cons_succ]
            refine take_at (i := 14) (v := ?_) rfl rfl (by kernel_rfl) (by kernel_rfl) (by kernel_rfl) (fun _ _ _ h => h) (Or.inl ⟨by rfl, ?_⟩) hS ?_
            rotate_left
            · intro w hSw; (try dsimp only at hSw); go_simp; try with_reducible rfl
            try simp only [List.setIfInBounds_toArray, List.set_cons_zero, List.set_cons_succ]
            refine take_at (i := 15) (v := ?_) rfl rfl (by kernel_rfl) (by kernel_rfl) (by kernel_rfl) (fun _ _ _ h => h) (Or.inl ⟨by rfl, ?_⟩) hS ?_
            rotate_left
            · intro w hSw; (try dsimp only at hSw); go_simp; try with_reducible rfl
            try simp only [List.setIfInBounds_toArray, List.set_cons_zero, List.set_cons_succ]
            refine take_at (i := 16) (v := ?_) rfl rfl (by kernel_rfl) (by kernel_rfl) (by kernel_rfl) (fun _ _ _ h => h) (Or.inl ⟨by rfl, ?_⟩) hS ?_
            rotate_left
            · intro w hSw; (try dsimp only at hSw); go_simp; try with_reducible rfl
            try simp only [List.setIfInBounds_toArray, List.set_cons_zero, List.set_cons_succ]
            refine take_at (i := 17) (v := ?_) rfl rfl (by kernel_rfl) (by kernel_rfl) (by kernel_rfl) (fun _ _ _ h => h) (Or.inl ⟨by rfl, ?_⟩) hS ?_
            rotate_left
            · intro w hSw; (try dsimp only at hSw); go_simp; try with_reducible rfl
            try simp only [List.setIfInBounds_toArray, List.set_cons_zero, List.set_cons_succ]
            refine wpAnyH_done (by kernel_rfl) ?_ _
            simp only [Sure, Exit.then]
            clear hS
            try simp only [Exit.inBlock, Exit.then]
            obtain ⟨g1, g2, g3⟩ := pl_in (x := 0) (y := v2) SE2.out (List.mem_of_getElem? HPQ2.out) (by omega) H2.out
            rw [g1, g2, g3]
            clear g1 g2 g3 hmx
            obtain ⟨h2a, h2b⟩ := H2.out
            have hlt : ¬ (L - 1 - U - v1 ≤ L - 1 - U2 - v2) := by omega
            go_wp2
            go_roundw
            case rel => exact ⟨j + 1, by omega, by go_num, by first | exact B6.out | exact Below.drew B6.out⟩
            case measure => simp [intOf]; omega
          · obtain rfl : n2 = j := by omega
            go_wp2
            go_roundw
            case rel => exact ⟨i + 1, by omega, by go_num, BC.out⟩
            case measure => simp [intOf]; omega
      · obtain rfl : n = i := by omega
        have B9 := hid (B3.out.trans (BB.out.mono B3.out.size))
        go_wp2_with fail
        refine (awake_any _).mono ?_
        rintro e wz ⟨rfl, hb⟩
        go_wp2
        go_ret
        exact ⟨rfl, B9.out.trans (hb.mono B9.out.size)⟩
theorem slitOnce_walk (x0 : Int) (x1 : Int) (a2 : Option Addr) (c2 : Nat) (x2 : List (List Int)) (x3 : Int) (x4 : Int) (x5 : Int) (x6 : Int) (a7 : Option Addr) (c7 : Nat) (x7 : List (List Int)) (x8 : Int) (x9 : Int) (x10 : Int) (x11 : Int) (w : World) (_h0 : (Lit.int .i64 x0).wf = true) (_h1 : (Lit.int .i64 x1).wf = true) (h2 : Rds Nn w 2 a2 x2.length (ints x2.flatten)) (g2 : x2.length ≤ c2 ∧ c2 ≤ maxLen ∧ (a2 = none → x2.length = 0 ∧ c2 = 0)) (i2 : ∀ r ∈ x2, r.length = 2 ∧ ∀ n ∈ r, (Lit.int .i64 n).wf = true) (_h3 : (Lit.int .i64 x3).wf = true) (_h4 : (Lit.int .i64 x4).wf = true) (_h5 : (Lit.int .i64 x5).wf = true) (_h6 : (Lit.int .i64 x6).wf = true) (h7 : Rds Nn w 2 a7 x7.length (ints x7.flatten)) (g7 : x7.length ≤ c7 ∧ c7 ≤ maxLen ∧ (a7 = none → x7.length = 0 ∧ c7 = 0)) (i7 : ∀ r ∈ x7, r.length = 2 ∧ ∀ n ∈ r, (Lit.int .i64 n).wf = true) (_h8 : (Lit.int .i64 x8).wf = true) (_h9 : (Lit.int .i64 x9).wf = true) (_h10 : (Lit.int .i64 x10).wf = true) (_h11 : (Lit.int .i64 x11).wf = true) :
    Calls Try.prog 8 #[.agg #[.int .i64 x0, .int .i64 x1, .slice a2 x2.length c2, .int .i64 x3, .int .i64 x4], .agg #[.int .i64 x5, .int .i64 x6, .slice a7 x7.length c7, .int .i64 x8, .int .i64 x9], .agg #[.int .i64 x10, .int .i64 x11]] w fun e w' => e = .returned (.bool true) ∧ Below w.heap.size w w' := by
  exact slitOnce_in x0 x1 a2 c2 _ x2 x3 x4 x5 x6 a7 c7 _ x7 x8 x9 x10 x11 w h2 (fun s hs => (i2 s hs).1) rfl (Nat.le_trans g2.1 g2.2.1) h7 (fun s hs => (i7 s hs).1) rfl (Nat.le_trans g7.1 g7.2.1)
end Go.Proofs.Ytccgbojcghbdcaa
