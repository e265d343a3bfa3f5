/- SlitCovers: for every input the law returns true. No condition. -/
import Derived.Test.YtccgbojcghbdcaaLaw39
import Derived.Test.YtccgbojcghbdcaaSPlain2
namespace Go.Proofs.Ytccgbojcghbdcaa
open Go.RowKit

theorem sl_drop2 {α : Type} {l : List α} {k : Nat} {y : α} (h : l[k]? = some y) : l.drop k = y :: l.drop (k + 1) := by
  obtain ⟨h1, h2⟩ := List.getElem?_eq_some_iff.1 h
  rw [List.drop_eq_getElem_cons h1, h2]
theorem trimL_two (W : Int) (l : List (List Int)) : ∀ s ∈ trimL W l, s.length = 2 := by
  unfold trimL
  split
  · exact trims_two W l 0
  · intro s hs; cases hs
set_option linter.unusedSimpArgs false in
set_option maxRecDepth 100000 in
set_option maxHeartbeats 16000000 in
theorem slitCovers_in (W L : Int) (a : Option Addr) (c n : Nat) (l : List (List Int)) (U K pa pb pc : Int) (w : World) (r : Rds Nn w 2 a n (ints l.flatten)) (t : ∀ s ∈ l, s.length = 2) (hn : n = l.length) (hl : n ≤ maxLen) : Calls Try.prog 7 #[.agg #[.int .i64 W, .int .i64 L, .slice a n c, .int .i64 U, .int .i64 K], .agg #[.int .i64 pa, .int .i64 pb, .int .i64 pc]] w fun e w' => e = .returned (.bool true) ∧ Below w.heap.size w w' := by
  have R1 := hid r
  have T := hid t
  have HN := hid hn
  clear r t hn
  have D0 := hid (Blk.alloc (Blk.at_new w (b := w.heap.size) (t := 36) (cs := #[.int .i64 W, .int .i64 L, .slice a n c, .int .i64 U, .int .i64 K]) rfl) (.cells #[.int .i64 pa, .int .i64 pb, .int .i64 pc] 55))
  have P0 := hid (Blk.at_new (w.alloc (.cells #[.int .i64 W, .int .i64 L, .slice a n c, .int .i64 U, .int .i64 K] 36)) (b := w.heap.size + 1) (t := 55) (cs := #[.int .i64 pa, .int .i64 pb, .int .i64 pc]) (by simp))
  have B0 := hid (((Below.refl w.heap.size w).alloc (Nat.le_refl _) (.cells #[.int .i64 W, .int .i64 L, .slice a n c, .int .i64 U, .int .i64 K] 36)).alloc (by simp) (.cells #[.int .i64 pa, .int .i64 pb, .int .i64 pc] 55))
  have c0 := D0.out.cell
  go_enter Try.func7, Try.ntmps7
  by_cases h20 : n ≤ 12
  rotate_left
  · have h21 : ((12 : Int) < n) := by omega
    go_wp2_with fail
    refine (awake_any _).mono ?_
    rintro e wz ⟨rfl, hb⟩
    go_wp2
    go_ret
    exact ⟨rfl, B0.out.trans (hb.mono B0.out.size)⟩
  have h21 : ¬ ((12 : Int) < n) := by omega
  go_wp2_with fail
  refine (trim_any W a c n l _ (R1.out.below B0.out) T.out HN.out hl).mono ?_
  rintro e w1 ⟨A1, c1, rfl, hr, hb⟩
  have RT := hid hr
  have B1 := hid (B0.out.trans (hb.mono B0.out.size))
  have D1 := hid (D0.out.below hb D0.out.lt)
  have P1 := hid (P0.out.below hb P0.out.lt)
  clear hb hr c0 D0 P0
  by_cases hz : slErr W l = 0
  rotate_left
  · have hz2 : (slErr W l != 0) = true := by simpa using hz
    have e0 : (trimL W l).length = 0 := by unfold trimL; rw [if_neg hz]; rfl
    rw [e0]
    clear RT e0
    go_wp2_with fail
    refine (awake_any _).mono ?_
    rintro e wz ⟨rfl, hb⟩
    go_wp2
    go_ret
    exact ⟨rfl, B1.out.trans (hb.mono B1.out.size)⟩
  rw [hz]
  have HZ := hid hz
  clear hz
  obtain ⟨TT, hTT⟩ : ∃ TT, trimL W l = TT := ⟨_, rfl⟩
  have T2 := hid (trimL_two W l)
  have C0 := hid (cov_0 HZ.out)
  have TL : Hid (TT.length ≤ n + 1) := hid (by rw [← hTT, HN.out]; unfold trimL; split; exact trims_len W l 0; simp)
  rw [hTT] at RT T2 C0 ⊢
  clear hTT
  obtain ⟨M, hM⟩ : ∃ M, TT.length = M := ⟨_, rfl⟩
  have HMT := hid hM
  have m13 : M ≤ 13 := by have := TL.out; omega
  rw [hM] at RT ⊢
  clear hM TL
  have wb : W ≤ 12000 := (sl_ok HZ.out).1.2
  have wb1 : 1 ≤ W := (sl_ok HZ.out).1.1
  have c1' := D1.out.cell
  go_wp2
  clear c1'
  go_loopw [7, 8, 9] (fun ua ui uk wr => ∃ (i k : Nat) (x : Int), i ≤ n ∧ k ≤ M ∧ ui = .int .i64 i ∧ uk = .int .i64 k ∧ ua = .int .i64 x ∧ Cov W x (l.drop i) (TT.drop k) ∧ Below w1.heap.size w1 wr) (fun _ ui uk _ => (n - (intOf ui).toNat) + (M - (intOf uk).toNat))
  case atStart => exact ⟨0, 0, 0, Nat.zero_le _, Nat.zero_le _, rfl, rfl, rfl, C0.out, Below.refl _ _⟩
  case round =>
    obtain ⟨i, k, x, hi, hk, rfl, rfl, rfl, hcv, hbel⟩ := hrel
    have BB := hid hbel
    clear hbel
    have DR := hid (D1.out.below BB.out D1.out.lt)
    have cr := DR.out.cell
    have BW := hid (B1.out.trans (BB.out.mono B1.out.size))
    by_cases hin : i < n
    · obtain ⟨p1, o1, y, z, rfl, _, hpq, hc⟩ := cells_at R1.out T.out HN.out hin
      obtain ⟨e1, e2⟩ := hc _ BW.out
      rw [sl_drop2 hpq] at hcv
      by_cases hyx : y = x
      · subst hyx
        obtain ⟨g1, g2, g3⟩ := cov_strip hcv
        have CV := hid g1
        have hlo := hcv.lo
        have wk1 : IntKind.i64.wrap ((i : Int) + 1) = i + 1 := IntWalk.i64_in _ (by omega)
        have wk2 : IntKind.i64.wrap (y + z) = y + z := IntWalk.i64_in _ (by omega)
        clear hc hpq g1 hcv
        go_wp2
        go_roundw
        case rel => exact ⟨i + 1, k, y + z, by omega, by omega, by go_num, rfl, rfl, CV.out, BB.out⟩
        case measure => simp [intOf]; omega
      · obtain ⟨T', g1, g2, g3, g4⟩ := cov_gap hcv hyx
        have hkM : k < M := by
          rcases Nat.lt_or_ge k M with h | h
          · exact h
          · rw [List.drop_eq_nil_of_le (by have := HMT.out; omega)] at g1; cases g1
        obtain ⟨p2, o2, y2, z2, rfl, _, hpq2, hc2⟩ := cells_at RT.out T2.out HMT.out.symm hkM
        obtain ⟨e3, e4⟩ := hc2 _ BB.out
        rw [sl_drop2 hpq2] at g1
        injection g1 with g5 g6
        simp only [List.cons.injEq, and_true] at g5
        obtain ⟨rfl, rfl⟩ := g5
        rw [← g6, ← sl_drop2 hpq] at g3
        have CV := hid g3
        have hlo := hcv.lo
        have hyx2 : ((y : Int) == y2) = false := by simpa using hyx
        have wk1 : IntKind.i64.wrap ((k : Int) + 1) = k + 1 := IntWalk.i64_in _ (by omega)
        have wk2 : IntKind.i64.wrap (y2 + (y - y2)) = y := by rw [IntWalk.i64_in _ (by omega)]; omega
        have hpos : ¬ (y - y2 ≤ 0) := by omega
        clear hc hc2 hpq hpq2 g3 g6 hcv
        go_wp2
        go_roundw
        case rel => exact ⟨i, k + 1, y, by omega, by omega, rfl, by go_num, rfl, CV.out, BB.out⟩
        case measure => simp [intOf]; omega
    · obtain rfl : n = i := by omega
      rw [List.drop_eq_nil_of_le (by have := HN.out; omega)] at hcv
      rcases cov_last hcv with ⟨g1, g2⟩ | ⟨g1, g2, g3⟩
      rotate_left
      · have hkM : k < M := by
          rcases Nat.lt_or_ge k M with h | h
          · exact h
          · rw [List.drop_eq_nil_of_le (by have := HMT.out; omega)] at g1; cases g1
        obtain ⟨p2, o2, y2, z2, rfl, _, hpq2, hc2⟩ := cells_at RT.out T2.out HMT.out.symm hkM
        obtain ⟨e3, e4⟩ := hc2 _ BB.out
        rw [sl_drop2 hpq2] at g1
        injection g1 with g5 g6
        simp only [List.cons.injEq, and_true] at g5
        obtain ⟨rfl, rfl⟩ := g5
        have CV := hid (show Cov W W (l.drop n) (TT.drop (k + 1)) from by rw [g6, List.drop_eq_nil_of_le (by have := HN.out; omega)]; exact g3)
        have hlo := hcv.lo
        have wk1 : IntKind.i64.wrap ((k : Int) + 1) = k + 1 := IntWalk.i64_in _ (by omega)
        have wk2 : IntKind.i64.wrap (y2 + (W - y2)) = W := by rw [IntWalk.i64_in _ (by omega)]; omega
        clear hc2 hpq2 g3 g6 hcv
        go_wp2
        go_roundw
        case rel => exact ⟨n, k + 1, W, by omega, by omega, rfl, by go_num, rfl, CV.out, BB.out⟩
        case measure => simp [intOf]; omega
      · have hkM : ¬ k < M := by
          intro h
          obtain ⟨p2, o2, y2, z2, _, _, hpq2, _⟩ := cells_at RT.out T2.out HMT.out.symm h
          rw [sl_drop2 hpq2] at g1
          cases g1
        have g2' := g2.symm
        subst g2'
        clear hcv g1
        go_wp2_with (refine wpList_load_blk2 (t := 36) rfl rfl rfl Try.underlying36 rfl (by kernel_rfl) DR.out ?_)
        refine (set39_any W L a c n l U K _ (R1.out.below BW.out) T.out HN.out hl).mono ?_
        rintro e w2 ⟨A2, c2, vs, rfl, hr, hp, hb⟩
        have RC := hid hr
        have PC := hid hp
        have B2 := hid (BW.out.trans (hb.mono BW.out.size))
        have D2 := hid (DR.out.below hb DR.out.lt)
        have P2 := hid ((P1.out.below BB.out P1.out.lt).below hb (P1.out.below BB.out P1.out.lt).lt)
        clear hb hr hp cr
        by_cases hse : setErr W L l U K = 0
        rotate_left
        · have hz2 : (setErr W L l U K != 0) = true := by simpa using hse
          have e0 := setL_no hse
          rw [e0]
          clear RC PC e0
          go_wp2_with fail
          refine (awake_any _).mono ?_
          rintro e wz ⟨rfl, hb⟩
          go_wp2
          go_ret
          exact ⟨rfl, B2.out.trans (hb.mono B2.out.size)⟩
        have SE := hid hse
        have hln := (setL_at hse).2
        rw [hse]
        rw [← HN.out] at hln
        rw [hln] at RC ⊢
        have HLN := hid hln
        obtain ⟨k0, ⟨k1, k2⟩, ⟨k3, k4⟩, ⟨k5, k6⟩, k7⟩ := set_facts hse
        clear hse hln k0
        have c2' := D2.out.cell
        have t1 : ¬ (W < 1) := by omega
        have t2 : ¬ (L < 1) := by omega
        go_upto_region 20 with fail
        refine wp_region_hand (fun w' => Blk w' w.heap.size 36 #[.int .i64 W, .int .i64 L, .slice a n c, .int .i64 U, .int .i64 K] ∧ Blk w' (w.heap.size + 1) 55 #[.int .i64 pa, .int .i64 pb, .int .i64 pc]) (by kernel_rfl) ?_
        simp only [List.length_cons, List.length_nil, Nat.zero_add, Nat.reduceAdd]
        have hS : Blk w2.drew w.heap.size 36 #[.int .i64 W, .int .i64 L, .slice a n c, .int .i64 U, .int .i64 K] ∧ Blk w2.drew (w.heap.size + 1) 55 #[.int .i64 pa, .int .i64 pb, .int .i64 pc] := ⟨D2.out, P2.out⟩
        refine take_at (i := 0) (v := ?_) rfl rfl (by kernel_rfl) (by kernel_rfl) (by kernel_rfl) (fun _ _ _ h => h) (Or.inl ⟨by rfl, ?_⟩) hS ?_
        rotate_left
        · intro w hSw; (try dsimp only at hSw); go_simp; try with_reducible rfl
        try simp only [List.setIfInBounds_toArray, List.set_cons_zero, List.set_cons_succ]
        refine take_at (i := 1) (v := ?_) rfl rfl (by kernel_rfl) (by kernel_rfl) (by kernel_rfl) (fun _ _ _ h => h) (Or.inl ⟨by rfl, ?_⟩) hS ?_
        rotate_left
        · intro wi hSw; have ci0 := hSw.2.cell; go_simp; try with_reducible rfl
        try simp only [List.setIfInBounds_toArray, List.set_cons_zero, List.set_cons_succ]
        refine take_at (i := 2) (v := ?_) rfl rfl (by kernel_rfl) (by kernel_rfl) (by kernel_rfl) (fun _ _ _ h => h) (Or.inl ⟨by rfl, ?_⟩) hS ?_
        rotate_left
        · intro w hSw; (try dsimp only at hSw); go_simp; try with_reducible rfl
        try simp only [List.setIfInBounds_toArray, List.set_cons_zero, List.set_cons_succ]
        refine take_at (i := 3) (v := ?_) rfl rfl (by kernel_rfl) (by kernel_rfl) (by kernel_rfl) (fun _ _ _ h => h) (Or.inl ⟨by rfl, ?_⟩) hS ?_
        rotate_left
        · intro wi hSw; have ci0 := hSw.1.cell; go_simp; try with_reducible rfl
        try simp only [List.setIfInBounds_toArray, List.set_cons_zero, List.set_cons_succ]
        refine take_at (i := 5) (v := ?_) rfl rfl (by kernel_rfl) (by kernel_rfl) (by kernel_rfl) (fun _ _ _ h => h) (Or.inl ⟨by rfl, ?_⟩) hS ?_
        rotate_left
        · intro w hSw; (try dsimp only at hSw); go_simp; try with_reducible rfl
        try simp only [List.setIfInBounds_toArray, List.set_cons_zero, List.set_cons_succ]
        refine take_at (i := 6) (v := ?_) rfl rfl (by kernel_rfl) (by kernel_rfl) (by kernel_rfl) (fun _ _ _ h => h) (Or.inl ⟨by rfl, ?_⟩) hS ?_
        rotate_left
        · intro wi hSw; have ci0 := hSw.2.cell; go_simp; try with_reducible rfl
        try simp only [List.setIfInBounds_toArray, List.set_cons_zero, List.set_cons_succ]
        refine take_at (i := 7) (v := ?_) rfl rfl (by kernel_rfl) (by kernel_rfl) (by kernel_rfl) (fun _ _ _ h => h) (Or.inl ⟨by rfl, ?_⟩) hS ?_
        rotate_left
        · intro w hSw; (try dsimp only at hSw); go_simp; try with_reducible rfl
        try simp only [List.setIfInBounds_toArray, List.set_cons_zero, List.set_cons_succ]
        refine take_at (i := 8) (v := ?_) rfl rfl (by kernel_rfl) (by kernel_rfl) (by kernel_rfl) (fun _ _ _ h => h) (Or.inl ⟨by rfl, ?_⟩) hS ?_
        rotate_left
        · intro wi hSw; have ci0 := hSw.1.cell; go_simp; try with_reducible rfl
        try simp only [List.setIfInBounds_toArray, List.set_cons_zero, List.set_cons_succ]
        refine wpAnyH_ready (rs := [4]) (by kernel_rfl) (by simp) ?_
        refine AllReadyH.cons rfl (fun K hK => ?_) AllReadyH.nil
        go_simp
        (go_at_call 27; refine (pick_any pb W _ (by omega)).mono ?_; rintro e w3 ⟨A, rfl, ha, hw3⟩; have HA := hid ha; subst hw3; clear ha)
        refine hK.out _ _ hS (fun hS => ?_)
        clear hK K
        try simp only [Act.put, List.setIfInBounds_toArray, List.set_cons_zero, List.set_cons_succ]
        refine wpAnyH_ready (rs := [9]) (by kernel_rfl) (by simp) ?_
        refine AllReadyH.cons rfl (fun K hK => ?_) AllReadyH.nil
        go_simp
        (go_at_call 27; refine (pick_any pc L _ (by omega)).mono ?_; rintro e w4 ⟨B, rfl, hb, hw4⟩; have HB := hid hb; subst hw4; clear hb)
        refine hK.out _ _ hS (fun hS => ?_)
        clear hK K
        try simp only [Act.put, List.setIfInBounds_toArray, List.set_cons_zero, List.set_cons_succ]
        refine take_at (i := 10) (v := ?_) rfl rfl (by kernel_rfl) (by kernel_rfl) (by kernel_rfl) (fun _ _ _ h => h) (Or.inl ⟨by rfl, ?_⟩) hS ?_
        rotate_left
        · intro w hSw; (try dsimp only at hSw); go_simp; try with_reducible rfl
        try simp only [List.setIfInBounds_toArray, List.set_cons_zero, List.set_cons_succ]
        refine take_at (i := 11) (v := ?_) rfl rfl (by kernel_rfl) (by kernel_rfl) (by kernel_rfl) (fun _ _ _ h => h) (Or.inl ⟨by rfl, ?_⟩) hS ?_
        rotate_left
        · intro w hSw; (try dsimp only at hSw); go_simp; try with_reducible rfl
        try simp only [List.setIfInBounds_toArray, List.set_cons_zero, List.set_cons_succ]
        refine wpAnyH_done (by kernel_rfl) ?_ _
        simp only [Sure, Exit.then]
        clear hS
        obtain ⟨ha1, ha2⟩ := HA.out
        obtain ⟨hb1, hb2⟩ := HB.out
        have wv1 : IntKind.i64.wrap (L - 1) = L - 1 := IntWalk.i64_in _ (by omega)
        have wv2 : IntKind.i64.wrap (L - 1 - U) = L - 1 - U := IntWalk.i64_in _ (by omega)
        have wv3 : IntKind.i64.wrap (L - 1 - U - B) = L - 1 - U - B := IntWalk.i64_in _ (by omega)
        go_wp2
        clear c2'
        go_loopw [15, 16, 17] (fun uf uw uj ws => ∃ (j : Nat) (f : Int), j ≤ n ∧ uj = .int .i64 j ∧ uf = .int .i64 f ∧ uw = .int .i64 f ∧ (f = 0 ∨ f = 1) ∧ (f = 1 → ∀ s ∈ l.drop j, A < s.getD 0 0) ∧ Below w2.heap.size w2 ws) (fun _ _ uj _ => n - (intOf uj).toNat)
        case atStart => exact ⟨0, 0, Nat.zero_le _, rfl, rfl, rfl, .inl rfl, (fun h => by omega), Below.drew (Below.refl _ _)⟩
        case round =>
          obtain ⟨j, f, hj, rfl, rfl, rfl, hf, hfar, hbel⟩ := hrel
          have BS := hid hbel
          have FAR := hid hfar
          clear hbel hfar
          by_cases hjn : j < n
          · obtain ⟨p1, o1, p, q, rfl, _, hpq, hc⟩ := cells_at R1.out T.out HN.out hjn
            obtain ⟨ps, os, p', q', t', m', A', c', rfl, hm, rk, hch⟩ := chrow_at RC.out PC.out HLN.out.symm hjn
            have hm2 := hm.symm.trans (setL_get SE.out hpq)
            injection hm2 with hm2
            simp only [Prod.mk.injEq] at hm2
            obtain ⟨rfl, rfl, rfl, rfl⟩ := hm2
            have CH : Hid (∀ W_1, Below w2.heap.size w2 W_1 → W_1.cell? ⟨ps, os + j * 4, none⟩ = some (.int .i64 p') ∧ W_1.cell? ⟨ps, os + j * 4 + 1, none⟩ = some (.int .i64 q') ∧ W_1.cell? ⟨ps, os + j * 4 + 2, none⟩ = some (.bool false) ∧ W_1.cell? ⟨ps, os + j * 4 + 3, none⟩ = some (.slice A' 1 c')) := hid hch
            have RK : Hid (Rds Nn w2 3 A' 1 (cellsR (runW L U K))) := hid rk
            have HPQ := hid hpq
            have HC := hid hc
            obtain ⟨_, q1, q2, q3, q4⟩ := pl_set SE.out (List.mem_of_getElem? hpq)
            clear hm hch rk hpq hc
            have wk1 : IntKind.i64.wrap ((j : Int) + 1) = j + 1 := IntWalk.i64_in _ (by omega)
            have wk2 : IntKind.i64.wrap (A - p') = A - p' := IntWalk.i64_in _ (by omega)
            go_upto_region 26 with fail
            refine wp_region_hand (fun w' => Below w2.heap.size w2 w') (by kernel_rfl) ?_
            simp only [List.length_cons, List.length_nil, Nat.zero_add, Nat.reduceAdd]
            have hS : Below w2.heap.size w2 wr.drew := Below.drew BS.out
            refine take_at (i := 0) (v := ?_) rfl rfl (by kernel_rfl) (by kernel_rfl) (by kernel_rfl) (fun _ _ _ h => h) (Or.inl ⟨by rfl, ?_⟩) hS ?_
            rotate_left
            · intro w hSw; (try dsimp only at hSw); go_simp; try with_reducible rfl
            try simp only [List.setIfInBounds_toArray, List.set_cons_zero, List.set_cons_succ]
            refine take_at (i := 1) (v := ?_) rfl rfl (by kernel_rfl) (by kernel_rfl) (by kernel_rfl) (fun _ _ _ h => h) (Or.inl ⟨by rfl, ?_⟩) hS ?_
            rotate_left
            · intro w hSw; (try dsimp only at hSw); go_simp; try with_reducible rfl
            try simp only [List.setIfInBounds_toArray, List.set_cons_zero, List.set_cons_succ]
            refine take_at (i := 2) (v := ?_) rfl rfl (by kernel_rfl) (by kernel_rfl) (by kernel_rfl) (fun _ _ _ h => h) (Or.inl ⟨by rfl, ?_⟩) hS ?_
            rotate_left
            · intro w hSw; (try dsimp only at hSw); go_simp; try with_reducible rfl
            try simp only [List.setIfInBounds_toArray, List.set_cons_zero, List.set_cons_succ]
            refine take_at (i := 3) (v := .agg #[.int .i64 p', .int .i64 q', .bool false, .slice A' 1 c']) rfl rfl (by kernel_rfl) (by kernel_rfl) (by kernel_rfl) (fun _ _ _ h => h) (Or.inl ⟨by rfl, fun wi hSw => exec_loads (p := .pointer (some ⟨ps, os + j * 4, none⟩)) rfl rfl (load_four (CH.out _ hSw).1 (CH.out _ hSw).2.1 (CH.out _ hSw).2.2.1 (CH.out _ hSw).2.2.2 Try.underlying47 rfl (by kernel_rfl))⟩) hS ?_
            try simp only [List.setIfInBounds_toArray, List.set_cons_zero, List.set_cons_succ]
            refine take_at (i := 4) (v := ?_) rfl rfl (by kernel_rfl) (by kernel_rfl) (by kernel_rfl) (fun _ _ _ h => h) (Or.inl ⟨by rfl, ?_⟩) hS ?_
            rotate_left
            · intro w hSw; (try dsimp only at hSw); go_simp; try with_reducible rfl
            try simp only [List.setIfInBounds_toArray, List.set_cons_zero, List.set_cons_succ]
            refine take_at (i := 5) (v := ?_) rfl rfl (by kernel_rfl) (by kernel_rfl) (by kernel_rfl) (fun _ _ _ h => h) (Or.inl ⟨by rfl, ?_⟩) hS ?_
            rotate_left
            · intro w hSw; (try dsimp only at hSw); go_simp; try with_reducible rfl
            try simp only [List.setIfInBounds_toArray, List.set_cons_zero, List.set_cons_succ]
            refine take_at (i := 6) (v := ?_) rfl rfl (by kernel_rfl) (by kernel_rfl) (by kernel_rfl) (fun _ _ _ h => h) (Or.inl ⟨by rfl, ?_⟩) hS ?_
            rotate_left
            · intro w hSw; (try dsimp only at hSw); go_simp; try with_reducible rfl
            try simp only [List.setIfInBounds_toArray, List.set_cons_zero, List.set_cons_succ]
            refine take_at (i := 7) (v := ?_) rfl rfl (by kernel_rfl) (by kernel_rfl) (by kernel_rfl) (fun _ _ _ h => h) (Or.inl ⟨by rfl, ?_⟩) hS ?_
            rotate_left
            · intro w hSw; (try dsimp only at hSw); go_simp; try with_reducible rfl
            try simp only [List.setIfInBounds_toArray, List.set_cons_zero, List.set_cons_succ]
            refine take_at (i := 8) (v := ?_) rfl rfl (by kernel_rfl) (by kernel_rfl) (by kernel_rfl) (fun _ _ _ h => h) (Or.inl ⟨by rfl, ?_⟩) hS ?_
            rotate_left
            · intro w hSw; (try dsimp only at hSw); go_simp; try with_reducible rfl
            try simp only [List.setIfInBounds_toArray, List.set_cons_zero, List.set_cons_succ]
            refine take_at (i := 9) (v := ?_) rfl rfl (by kernel_rfl) (by kernel_rfl) (by kernel_rfl) (fun _ _ _ h => h) (Or.inl ⟨by rfl, ?_⟩) hS ?_
            rotate_left
            · intro wi hSw; have ci0 := (CH.out _ hSw).1; go_simp; try with_reducible rfl
            try simp only [List.setIfInBounds_toArray, List.set_cons_zero, List.set_cons_succ]
            refine take_at (i := 10) (v := ?_) rfl rfl (by kernel_rfl) (by kernel_rfl) (by kernel_rfl) (fun _ _ _ h => h) (Or.inl ⟨by rfl, ?_⟩) hS ?_
            rotate_left
            · intro w hSw; (try dsimp only at hSw); go_simp; try with_reducible rfl
            try simp only [List.setIfInBounds_toArray, List.set_cons_zero, List.set_cons_succ]
            refine take_at (i := 11) (v := ?_) rfl rfl (by kernel_rfl) (by kernel_rfl) (by kernel_rfl) (fun _ _ _ h => h) (Or.inl ⟨by rfl, ?_⟩) hS ?_
            rotate_left
            · intro w hSw; (try dsimp only at hSw); go_simp; try with_reducible rfl
            try simp only [List.setIfInBounds_toArray, List.set_cons_zero, List.set_cons_succ]
            refine wpAnyH_ready (rs := [12]) (by kernel_rfl) (by simp) ?_
            refine AllReadyH.cons rfl (fun KK hK => ?_) AllReadyH.nil
            go_simp
            (go_at_call 24; refine (place_any p' q' false A' c' 1 (runW L U K) _ (RK.out.below (Below.drew BS.out)) rfl (by omega) (A - p') (L - 1 - U - B)).mono ?_; rintro e w5 ⟨rfl, hb⟩; have B5 := hid (BS.out.trans (Below.trans (Below.drew (Below.refl wr.heap.size wr)) hb |>.mono BS.out.size)); clear hb)
            refine hK.out _ _ B5.out (fun hS => ?_)
            clear hK KK
            try simp only [Act.put, List.setIfInBounds_toArray, List.set_cons_zero, List.set_cons_succ]
            refine take_at (i := 13) (v := ?_) rfl rfl (by kernel_rfl) (by kernel_rfl) (by kernel_rfl) (fun _ _ _ h => h) (Or.inl ⟨by rfl, ?_⟩) hS ?_
            rotate_left
            · intro w hSw; (try dsimp only at hSw); go_simp; try with_reducible rfl
            try simp only [List.setIfInBounds_toArray, List.set_cons_zero, List.set_cons_succ]
            refine take_at (i := 14) (v := ?_) rfl rfl (by kernel_rfl) (by kernel_rfl) (by kernel_rfl) (fun _ _ _ h => h) (Or.inl ⟨by rfl, ?_⟩) hS ?_
            rotate_left
            · intro w hSw; (try dsimp only at hSw); go_simp; try with_reducible rfl
            try simp only [List.setIfInBounds_toArray, List.set_cons_zero, List.set_cons_succ]
            refine take_at (i := 15) (v := ?_) rfl rfl (by kernel_rfl) (by kernel_rfl) (by kernel_rfl) (fun _ _ _ h => h) (Or.inl ⟨by rfl, ?_⟩) hS ?_
            rotate_left
            · intro w hSw; (try dsimp only at hSw); go_simp; try with_reducible rfl
            try simp only [List.setIfInBounds_toArray, List.set_cons_zero, List.set_cons_succ]
            refine take_at (i := 16) (v := ?_) rfl rfl (by kernel_rfl) (by kernel_rfl) (by kernel_rfl) (fun _ _ _ h => h) (Or.inl ⟨by rfl, ?_⟩) hS ?_
            rotate_left
            · intro w hSw; (try dsimp only at hSw); go_simp; try with_reducible rfl
            try simp only [List.setIfInBounds_toArray, List.set_cons_zero, List.set_cons_succ]
            refine take_at (i := 17) (v := ?_) rfl rfl (by kernel_rfl) (by kernel_rfl) (by kernel_rfl) (fun _ _ _ h => h) (Or.inl ⟨by rfl, ?_⟩) hS ?_
            rotate_left
            · intro w hSw; (try dsimp only at hSw); go_simp; try with_reducible rfl
            try simp only [List.setIfInBounds_toArray, List.set_cons_zero, List.set_cons_succ]
            refine take_at (i := 18) (v := ?_) rfl rfl (by kernel_rfl) (by kernel_rfl) (by kernel_rfl) (fun _ _ _ h => h) (Or.inl ⟨by rfl, ?_⟩) hS ?_
            rotate_left
            · intro w hSw; (try dsimp only at hSw); go_simp; try with_reducible rfl
            try simp only [List.setIfInBounds_toArray, List.set_cons_zero, List.set_cons_succ]
            refine take_at (i := 19) (v := ?_) rfl rfl (by kernel_rfl) (by kernel_rfl) (by kernel_rfl) (fun _ _ _ h => h) (Or.inl ⟨by rfl, ?_⟩) hS ?_
            rotate_left
            · intro w hSw; (try dsimp only at hSw); go_simp; try with_reducible rfl
            try simp only [List.setIfInBounds_toArray, List.set_cons_zero, List.set_cons_succ]
            refine wpAnyH_done (by kernel_rfl) ?_ _
            simp only [Sure, Exit.then]
            clear hS
            try simp only [Exit.inBlock, Exit.then]
            have DX := hid (D2.out.below B5.out D2.out.lt)
            have BX := hid (B5.out.alloc B5.out.size (.cells #[.int .i64 p', .int .i64 q'] 57))
            have cx := DX.out.cell
            have cx2 := (Blk.alloc DX.out (.cells #[.int .i64 p', .int .i64 q'] 57)).cell
            have BY := hid (B2.out.trans (B5.out.mono B2.out.size))
            obtain ⟨e1, e2⟩ := HC.out _ BY.out
            have wk3 : IntKind.i64.wrap (p' + q') = p' + q' := IntWalk.i64_in _ (by omega)
            have wk4 : IntKind.i64.wrap (L - U) = L - U := IntWalk.i64_in _ (by omega)
            have wk5 : IntKind.i64.wrap (L - U - K) = L - U - K := IntWalk.i64_in _ (by omega)
            have wk6 : IntKind.i64.wrap (f + 1) = f + 1 := IntWalk.i64_in _ (by omega)
            by_cases x1 : p' ≤ A
            rotate_left
            · clear wk6
              have hne : plErr p' q' (runW L U K) (A - p') (L - 1 - U - B) ≠ 0 := pl_out SE.out (List.mem_of_getElem? HPQ.out) (by omega)
              have hne2 : (plErr p' q' (runW L U K) (A - p') (L - 1 - U - B) == 0) = false := by simpa using hne
              clear hne
              go_wp2_with fail
              go_roundw
              case rel => exact ⟨j + 1, f, by omega, by go_num, rfl, rfl, hf, fun h s hs => FAR.out h s (by rw [sl_drop2 HPQ.out]; exact List.mem_cons_of_mem _ hs), BX.out⟩
              case measure => simp [intOf]; omega
            by_cases x2 : A < p' + q'
            rotate_left
            · clear wk6
              have hne : plErr p' q' (runW L U K) (A - p') (L - 1 - U - B) ≠ 0 := pl_out SE.out (List.mem_of_getElem? HPQ.out) (by omega)
              have hne2 : (plErr p' q' (runW L U K) (A - p') (L - 1 - U - B) == 0) = false := by simpa using hne
              clear hne
              go_wp2_with fail
              go_roundw
              case rel => exact ⟨j + 1, f, by omega, by go_num, rfl, rfl, hf, fun h s hs => FAR.out h s (by rw [sl_drop2 HPQ.out]; exact List.mem_cons_of_mem _ hs), BX.out⟩
              case measure => simp [intOf]; omega
            by_cases x3 : L - U - K ≤ B
            rotate_left
            · clear wk6
              have hne : plErr p' q' (runW L U K) (A - p') (L - 1 - U - B) ≠ 0 := pl_out SE.out (List.mem_of_getElem? HPQ.out) (by omega)
              have hne2 : (plErr p' q' (runW L U K) (A - p') (L - 1 - U - B) == 0) = false := by simpa using hne
              clear hne
              go_wp2_with fail
              go_roundw
              case rel => exact ⟨j + 1, f, by omega, by go_num, rfl, rfl, hf, fun h s hs => FAR.out h s (by rw [sl_drop2 HPQ.out]; exact List.mem_cons_of_mem _ hs), BX.out⟩
              case measure => simp [intOf]; omega
            by_cases x4 : B < L - U
            rotate_left
            · clear wk6
              have hne : plErr p' q' (runW L U K) (A - p') (L - 1 - U - B) ≠ 0 := pl_out SE.out (List.mem_of_getElem? HPQ.out) (by omega)
              have hne2 : (plErr p' q' (runW L U K) (A - p') (L - 1 - U - B) == 0) = false := by simpa using hne
              clear hne
              go_wp2_with fail
              go_roundw
              case rel => exact ⟨j + 1, f, by omega, by go_num, rfl, rfl, hf, fun h s hs => FAR.out h s (by rw [sl_drop2 HPQ.out]; exact List.mem_cons_of_mem _ hs), BX.out⟩
              case measure => simp [intOf]; omega
            have hf0 : f = 0 := by
              rcases hf with h | h
              · exact h
              · have := FAR.out h [p', q'] (by rw [sl_drop2 HPQ.out]; exact List.mem_cons_self ..)
                simp at this
                omega
            subst hf0
            obtain ⟨g1, g2, g3⟩ := pl_in (x := A - p') (y := L - 1 - U - B) SE.out (List.mem_of_getElem? HPQ.out) (by omega) (by omega)
            rw [g1, g2, g3, show p' + (A - p') = A by omega, show L - 1 - U - (L - 1 - U - B) = B by omega]
            clear g1 g2 g3 wk2 wk6
            have FAR2 : Hid (∀ s ∈ l.drop (j + 1), A < s.getD 0 0) := hid (fun s hs => by
              have h1 := apart_drop j (sl_ok HZ.out).2.2.2
              rw [sl_drop2 HPQ.out] at h1
              have h2 := apart_far (W := W) h1 (fun t ht => (sl_ok HZ.out).2.2.1 t (by rw [← sl_drop2 HPQ.out] at ht; exact List.mem_of_mem_drop ht)) s hs
              simp only [List.getD_cons_zero, List.getD_cons_succ] at h2
              omega)
            go_wp2_with fail
            go_roundw
            case rel => exact ⟨j + 1, 1, by omega, by go_num, rfl, rfl, .inr rfl, fun _ => FAR2.out, BX.out⟩
            case measure => simp [intOf]; omega
          · obtain rfl : n = j := by omega
            have B6 := hid (B2.out.trans (BS.out.mono B2.out.size))
            have hf1 : f ≤ 1 := by omega
            go_wp2_with fail
            refine (awake_any _).mono ?_
            rintro e wz ⟨rfl, hb⟩
            go_wp2
            go_ret
            exact ⟨rfl, B6.out.trans (hb.mono B6.out.size)⟩
theorem slitCovers_walk (x0 : Int) (x1 : Int) (a2 : Option Addr) (c2 : Nat) (x2 : List (List Int)) (x3 : Int) (x4 : Int) (x5 : Int) (x6 : Int) (x7 : Int) (w : World) (_h0 : (Lit.int .i64 x0).wf = true) (_h1 : (Lit.int .i64 x1).wf = true) (h2 : Rds Nn w 2 a2 x2.length (ints x2.flatten)) (g2 : x2.length ≤ c2 ∧ c2 ≤ maxLen ∧ (a2 = none → x2.length = 0 ∧ c2 = 0)) (i2 : ∀ r ∈ x2, r.length = 2 ∧ ∀ n ∈ r, (Lit.int .i64 n).wf = true) (_h3 : (Lit.int .i64 x3).wf = true) (_h4 : (Lit.int .i64 x4).wf = true) (_h5 : (Lit.int .i64 x5).wf = true) (_h6 : (Lit.int .i64 x6).wf = true) (_h7 : (Lit.int .i64 x7).wf = true) :
    Calls Try.prog 7 #[.agg #[.int .i64 x0, .int .i64 x1, .slice a2 x2.length c2, .int .i64 x3, .int .i64 x4], .agg #[.int .i64 x5, .int .i64 x6, .int .i64 x7]] w fun e w' => e = .returned (.bool true) ∧ Below w.heap.size w w' := by
  exact slitCovers_in x0 x1 a2 c2 _ x2 x3 x4 x5 x6 x7 w h2 (fun s hs => (i2 s hs).1) rfl (Nat.le_trans g2.1 g2.2.1)
end Go.Proofs.Ytccgbojcghbdcaa
