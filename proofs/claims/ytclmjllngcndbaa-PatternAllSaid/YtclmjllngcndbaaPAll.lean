/- PatternAll: for every input the law returns true. No condition. -/
import Derived.Test.YtclmjllngcndbaaPLight
namespace Go.Proofs.Ytclmjllngcndbaa
open Go.RowKit

set_option linter.unusedSimpArgs false in
set_option maxRecDepth 100000 in
set_option maxHeartbeats 8000000 in
theorem patternAll_in (W E T J : Int) (a a2 : Option Addr) (c c2 n n2 : Nat) (zs cs : List Int) (w : World) (r : Rds Nn w 1 a n (ints zs)) (r2 : Rds Nn w 1 a2 n2 (ints cs)) (hn : n = zs.length) (hn2 : n2 = cs.length) (hl : n ≤ maxLen) (hl2 : n2 ≤ maxLen) (kk : Int) (hkk : -9223372036854775808 ≤ kk ∧ kk ≤ 9223372036854775807) : Calls Try.prog 8 #[.agg #[.int .i64 W, .int .i64 E, .int .i64 T, .int .i64 J, .slice a n c], .slice a2 n2 c2, .int .i64 kk] w fun e w' => e = .returned (.bool true) ∧ Below w.heap.size w w' := by
  have RR := hid r
  have R2 := hid r2
  have HN2 := hid hn2
  have HN := hid hn
  clear r r2 hn hn2
  have D0 := hid (Blk.at_new w (b := w.heap.size) (t := 24) (cs := #[.int .i64 W, .int .i64 E, .int .i64 T, .int .i64 J, .slice a n c]) rfl)
  have B0 := hid ((Below.refl w.heap.size w).alloc (Nat.le_refl _) (.cells #[.int .i64 W, .int .i64 E, .int .i64 T, .int .i64 J, .slice a n c] 24))
  unfold maxLen at hl2
  go_enter Try.func8, Try.ntmps8
  go_wp2_with (refine wpList_load_blk2 (t := 24) rfl rfl rfl Try.underlying24 rfl (by kernel_rfl) D0.out ?_)
  refine (light_any W E T J a c n _ hl).mono ?_
  rintro e w1 ⟨rfl, hb⟩
  have D1 := hid (D0.out.below hb D0.out.lt)
  have B1 := hid (B0.out.trans (hb.mono B0.out.size))
  clear hb
  by_cases hf : n ≤ 20
  rotate_left
  · rw [show decide (n ≤ 20) = false by simp; omega]
    clear hf
    go_wp2_with fail
    refine (awake_any _).mono ?_
    rintro e wz ⟨rfl, hb⟩
    go_wp2
    go_ret
    exact ⟨rfl, B1.out.trans (hb.mono B1.out.size)⟩
  rw [show decide (n ≤ 20) = true by simp; omega]
  by_cases hf2 : n2 ≤ 20
  rotate_left
  · clear hf
    go_wp2_with fail
    refine (awake_any _).mono ?_
    rintro e wz ⟨rfl, hb⟩
    go_wp2
    go_ret
    exact ⟨rfl, B1.out.trans (hb.mono B1.out.size)⟩
  go_wp2_with (refine wpList_load_blk2 (t := 24) rfl rfl rfl Try.underlying24 rfl (by kernel_rfl) D1.out ?_)
  refine (all1_any W E T J a c n zs _ (RR.out.below B1.out) HN.out hl).mono ?_
  rintro e w2 ⟨A, cap, vs, rfl, hr, hp, hb⟩
  have D2 := hid (D1.out.below hb D1.out.lt)
  have B2 := hid (B1.out.trans (hb.mono B1.out.size))
  by_cases hck : chkErr W E T J zs = 0
  rotate_left
  · have hz2 : (chkErr W E T J zs != 0) = true := by simpa using hck
    have hl0 : (allV W E T J zs).length = 0 := by unfold allV; rw [if_neg hck]; rfl
    have hzz : (chkErr W E T J zs == chkErr W E T J zs) = true := by simp
    clear hr hp hb hck
    have cD := D2.out.cell
    go_wp2_with (first
      | (go_at_call 12; refine (check_any W E T J a c n zs _ (RR.out.below B2.out) HN.out hl).mono ?_; rintro e w3 ⟨rfl, hb⟩; have B3 := hid (B2.out.trans (hb.mono B2.out.size)); clear hb)
      | (go_at_call 11; refine (awake_any _).mono ?_; rintro e v9 ⟨rfl, hb⟩))
    go_ret
    exact ⟨rfl, B3.out.trans (hb.mono B3.out.size)⟩
  have HR := hid (dk_right (chk_ok hck).1)
  have hN1 := (chk_ok hck).2
  have AV : allV W E T J zs = pats W E T J zs := by unfold allV; rw [if_pos hck]
  rw [AV] at hr hp ⊢
  have FTE : Hid (∀ ds, ftErr W E T J zs ds = fitErr W E T J zs ds) := hid (fun ds => by unfold ftErr; rw [if_neg (fun e => e hck)])
  obtain ⟨N, hN⟩ : ∃ N, (pats W E T J zs).length = N := ⟨_, rfl⟩
  rw [hN] at hr hN1 ⊢
  have NN := hid hN
  have RU := hid hr
  have PU := hid hp
  have PD := hid (List.pairwise_iff_getElem.1 (pats_desc W E T J zs))
  have n8 : 1 ≤ n ∧ n ≤ 8 := by rw [HN.out]; exact HR.out.n
  have LEN : Hid (∀ l ∈ pats W E T J zs, l.length = n) := hid (fun l hl => by rw [HN.out]; exact (fit_ok ((mem_pats HR.out).1 hl)).1)
  have FT0 : Hid (∀ l ∈ pats W E T J zs, ftErr W E T J zs l = 0) := hid (fun l hl => by rw [FTE.out]; exact (mem_pats HR.out).1 hl)
  rw [hck]
  clear hr hp hb hck AV hN
  have cD := D2.out.cell
  go_wp2
  clear cD
  go_loopw [9] (fun i wr => ∃ k : Nat, 1 ≤ k ∧ k ≤ max 1 N ∧ i = .int .i64 k ∧ Blk wr w.heap.size 24 #[.int .i64 W, .int .i64 E, .int .i64 T, .int .i64 J, .slice a n c] ∧ Below w2.heap.size w2 wr) (fun i _ => N - (intOf i).toNat)
  case atStart => exact ⟨1, Nat.le_refl _, by omega, rfl, D2.out, Below.refl _ _⟩
  case round =>
    obtain ⟨k, hk1, hk, rfl, hD, hbel⟩ := hrel
    have DD := hid hD
    have BB := hid hbel
    clear hD hbel
    by_cases hlt : k < N
    · obtain ⟨l1, A1, k1, hx1, hv1, hq1⟩ := PU.out.at_ (k := k) (by rw [NN.out]; exact hlt)
      obtain ⟨l2, A2, k2, hx2, hv2, hq2⟩ := PU.out.at_ (k := k - 1) (by rw [NN.out]; omega)
      obtain ⟨p1, o1, rfl, _, hc1⟩ := val_cell RU.out hlt hv1
      obtain ⟨p2, o2, hA, _, hc2⟩ := val_cell RU.out (k := k - 1) (by omega) hv2
      injection hA with hA
      injection hA with hA1 hA2 _
      subst hA1 hA2
      have L1 := hid (LEN.out l1 (List.mem_of_getElem? hx1))
      have L2 := hid (LEN.out l2 (List.mem_of_getElem? hx2))
      have GT : Hid (gtL l2 l1) := hid (by
        obtain ⟨a1, a2⟩ := List.getElem?_eq_some_iff.1 hx1
        obtain ⟨b1, b2⟩ := List.getElem?_eq_some_iff.1 hx2
        have := PD.out (k - 1) k b1 a1 (by omega)
        rwa [a2, b2] at this)
      rw [L1.out] at hq1 hc1
      rw [L2.out] at hq2 hc2
      have e1 := hc1 _ BB.out
      have e2 := hc2 _ BB.out
      have E1 := hid hc1
      have E2 := hid hc2
      have Q1 := hid (hq1.below BB.out)
      have Q2 := hid (hq2.below BB.out)
      have hkm : IntKind.i64.wrap ((k : Int) - 1) = ((k - 1 : Nat) : Int) := by rw [IntWalk.i64_in _ (by omega)]; omega
      have hk2 : k - 1 < N := by omega
      have cD := DD.out.cell
      clear hc1 hc2 hx1 hx2 hq1 hq2 hv1 hv2
      go_upto_region 11 with fail
      refine wp_region_hand (fun w' => Blk w' w.heap.size 24 #[.int .i64 W, .int .i64 E, .int .i64 T, .int .i64 J, .slice a n c] ∧ w'.cell? ⟨p1, o1 + k, none⟩ = some (.slice A1 n k1) ∧ w'.cell? ⟨p1, o1 + (k - 1), none⟩ = some (.slice A2 n k2)) (by kernel_rfl) ?_
      simp only [List.length_cons, List.length_nil, Nat.zero_add, Nat.reduceAdd]
      have hS : Blk wr.drew w.heap.size 24 #[.int .i64 W, .int .i64 E, .int .i64 T, .int .i64 J, .slice a n c] ∧ wr.drew.cell? ⟨p1, o1 + k, none⟩ = some (.slice A1 n k1) ∧ wr.drew.cell? ⟨p1, o1 + (k - 1), none⟩ = some (.slice A2 n k2) := ⟨DD.out, e1, e2⟩
      refine take_at (i := 0) (v := ?_) rfl rfl (by kernel_rfl) (by kernel_rfl) (by kernel_rfl) (fun _ _ _ h => h) (Or.inl ⟨by rfl, ?_⟩) hS ?_
      rotate_left
      · intro w hSw; (try dsimp only at hSw); go_simp; try with_reducible rfl
      try simp only [List.setIfInBounds_toArray, List.set_cons_zero, List.set_cons_succ]
      refine take_at (i := 1) (v := ?_) rfl rfl (by kernel_rfl) (by kernel_rfl) (by kernel_rfl) (fun _ _ _ h => h) (Or.inl ⟨by rfl, ?_⟩) hS ?_
      rotate_left
      · intro w hSw; (try dsimp only at hSw); go_simp; try with_reducible rfl
      try simp only [List.setIfInBounds_toArray, List.set_cons_zero, List.set_cons_succ]
      refine take_at (i := 2) (v := ?_) rfl rfl (by kernel_rfl) (by kernel_rfl) (by kernel_rfl) (fun _ _ _ h => h) (Or.inl ⟨by rfl, ?_⟩) hS ?_
      rotate_left
      · intro w hSw; (try dsimp only at hSw); go_simp; try with_reducible rfl
      try simp only [List.setIfInBounds_toArray, List.set_cons_zero, List.set_cons_succ]
      refine take_at (i := 3) (v := ?_) rfl rfl (by kernel_rfl) (by kernel_rfl) (by kernel_rfl) (fun _ _ _ h => h) (Or.inl ⟨by rfl, ?_⟩) hS ?_
      rotate_left
      · intro wi hSw; have ci0 := hSw.2.1; go_simp; try with_reducible rfl
      try simp only [List.setIfInBounds_toArray, List.set_cons_zero, List.set_cons_succ]
      refine take_at (i := 4) (v := ?_) rfl rfl (by kernel_rfl) (by kernel_rfl) (by kernel_rfl) (fun _ _ _ h => h) (Or.inl ⟨by rfl, ?_⟩) hS ?_
      rotate_left
      · intro w hSw; (try dsimp only at hSw); go_simp; try with_reducible rfl
      try simp only [List.setIfInBounds_toArray, List.set_cons_zero, List.set_cons_succ]
      refine take_at (i := 5) (v := ?_) rfl rfl (by kernel_rfl) (by kernel_rfl) (by kernel_rfl) (fun _ _ _ h => h) (Or.inl ⟨by rfl, ?_⟩) hS ?_
      rotate_left
      · intro w hSw; (try dsimp only at hSw); go_simp; try with_reducible rfl
      try simp only [List.setIfInBounds_toArray, List.set_cons_zero, List.set_cons_succ]
      refine take_at (i := 6) (v := ?_) rfl rfl (by kernel_rfl) (by kernel_rfl) (by kernel_rfl) (fun _ _ _ h => h) (Or.inl ⟨by rfl, ?_⟩) hS ?_
      rotate_left
      · intro wi hSw; have ci0 := hSw.1.cell; go_simp; try with_reducible rfl
      try simp only [List.setIfInBounds_toArray, List.set_cons_zero, List.set_cons_succ]
      refine take_at (i := 7) (v := ?_) rfl rfl (by kernel_rfl) (by kernel_rfl) (by kernel_rfl) (fun _ _ _ h => h) (Or.inl ⟨by rfl, ?_⟩) hS ?_
      rotate_left
      · intro w hSw; (try dsimp only at hSw); go_simp; try with_reducible rfl
      try simp only [List.setIfInBounds_toArray, List.set_cons_zero, List.set_cons_succ]
      refine take_at (i := 8) (v := ?_) rfl rfl (by kernel_rfl) (by kernel_rfl) (by kernel_rfl) (fun _ _ _ h => h) (Or.inl ⟨by rfl, ?_⟩) hS ?_
      rotate_left
      · intro w hSw; (try dsimp only at hSw); go_simp; try with_reducible rfl
      try simp only [List.setIfInBounds_toArray, List.set_cons_zero, List.set_cons_succ]
      refine take_at (i := 9) (v := ?_) rfl rfl (by kernel_rfl) (by kernel_rfl) (by kernel_rfl) (fun _ _ _ h => h) (Or.inl ⟨by rfl, ?_⟩) hS ?_
      rotate_left
      · intro w hSw; (try dsimp only at hSw); go_simp; try with_reducible rfl
      try simp only [List.setIfInBounds_toArray, List.set_cons_zero, List.set_cons_succ]
      refine take_at (i := 10) (v := ?_) rfl rfl (by kernel_rfl) (by kernel_rfl) (by kernel_rfl) (fun _ _ _ h => h) (Or.inl ⟨by rfl, ?_⟩) hS ?_
      rotate_left
      · intro w hSw; (try dsimp only at hSw); go_simp; try with_reducible rfl
      try simp only [List.setIfInBounds_toArray, List.set_cons_zero, List.set_cons_succ]
      refine take_at (i := 11) (v := ?_) rfl rfl (by kernel_rfl) (by kernel_rfl) (by kernel_rfl) (fun _ _ _ h => h) (Or.inl ⟨by rfl, ?_⟩) hS ?_
      rotate_left
      · intro w hSw; (try dsimp only at hSw); go_simp; try with_reducible rfl
      try simp only [List.setIfInBounds_toArray, List.set_cons_zero, List.set_cons_succ]
      refine take_at (i := 12) (v := ?_) rfl rfl (by kernel_rfl) (by kernel_rfl) (by kernel_rfl) (fun _ _ _ h => h) (Or.inl ⟨by rfl, ?_⟩) hS ?_
      rotate_left
      · intro w hSw; (try dsimp only at hSw); go_simp; try with_reducible rfl
      try simp only [List.setIfInBounds_toArray, List.set_cons_zero, List.set_cons_succ]
      refine take_at (i := 13) (v := ?_) rfl rfl (by kernel_rfl) (by kernel_rfl) (by kernel_rfl) (fun _ _ _ h => h) (Or.inl ⟨by rfl, ?_⟩) hS ?_
      rotate_left
      · intro w hSw; (try dsimp only at hSw); go_simp; try with_reducible rfl
      try simp only [List.setIfInBounds_toArray, List.set_cons_zero, List.set_cons_succ]
      refine take_at (i := 14) (v := ?_) rfl rfl (by kernel_rfl) (by kernel_rfl) (by kernel_rfl) (fun _ _ _ h => h) (Or.inl ⟨by rfl, ?_⟩) hS ?_
      rotate_left
      · intro wi hSw; have ci0 := hSw.2.2; go_simp; try with_reducible rfl
      try simp only [List.setIfInBounds_toArray, List.set_cons_zero, List.set_cons_succ]
      refine take_at (i := 15) (v := ?_) rfl rfl (by kernel_rfl) (by kernel_rfl) (by kernel_rfl) (fun _ _ _ h => h) (Or.inl ⟨by rfl, ?_⟩) hS ?_
      rotate_left
      · intro w hSw; (try dsimp only at hSw); go_simp; try with_reducible rfl
      try simp only [List.setIfInBounds_toArray, List.set_cons_zero, List.set_cons_succ]
      refine take_at (i := 16) (v := ?_) rfl rfl (by kernel_rfl) (by kernel_rfl) (by kernel_rfl) (fun _ _ _ h => h) (Or.inl ⟨by rfl, ?_⟩) hS ?_
      rotate_left
      · intro w hSw; (try dsimp only at hSw); go_simp; try with_reducible rfl
      try simp only [List.setIfInBounds_toArray, List.set_cons_zero, List.set_cons_succ]
      refine take_at (i := 17) (v := ?_) rfl rfl (by kernel_rfl) (by kernel_rfl) (by kernel_rfl) (fun _ _ _ h => h) (Or.inl ⟨by rfl, ?_⟩) hS ?_
      rotate_left
      · intro w hSw; (try dsimp only at hSw); go_simp; try with_reducible rfl
      try simp only [List.setIfInBounds_toArray, List.set_cons_zero, List.set_cons_succ]
      refine take_at (i := 18) (v := ?_) rfl rfl (by kernel_rfl) (by kernel_rfl) (by kernel_rfl) (fun _ _ _ h => h) (Or.inl ⟨by rfl, ?_⟩) hS ?_
      rotate_left
      · intro wi hSw; have ci0 := hSw.2.1; go_simp; try with_reducible rfl
      try simp only [List.setIfInBounds_toArray, List.set_cons_zero, List.set_cons_succ]
      refine wpAnyH_ready (rs := [19]) (by kernel_rfl) (by simp) ?_
      refine AllReadyH.cons rfl (fun K hK => ?_) AllReadyH.nil
      go_simp
      (go_at_call 25; refine (greater_any A2 A1 k2 k1 n n l2 l1 _ (Q2.out.below (Below.drew (Below.refl _ _))) (Q1.out.below (Below.drew (Below.refl _ _))) L2.out.symm L1.out.symm (by omega) GT.out).mono ?_; rintro e w9 ⟨rfl, hb⟩; have HB := (show Below wr.heap.size wr w9 from (Below.drew (Below.refl _ _)).trans hb); have D9 := hid (DD.out.below HB DD.out.lt); have B9 := hid (BB.out.trans (HB.mono BB.out.size)); have g1 := E1.out _ B9.out; have g2 := E2.out _ B9.out; clear hb HB hS)
      refine hK.out _ _ ⟨D9.out, g1, g2⟩ (fun hS => ?_)
      clear hK K
      try simp only [Act.put, List.setIfInBounds_toArray, List.set_cons_zero, List.set_cons_succ]
      refine take_at (i := 20) (v := ?_) rfl rfl (by kernel_rfl) (by kernel_rfl) (by kernel_rfl) (fun _ _ _ h => h) (Or.inl ⟨by rfl, ?_⟩) hS ?_
      rotate_left
      · intro w hSw; (try dsimp only at hSw); go_simp; try with_reducible rfl
      try simp only [List.setIfInBounds_toArray, List.set_cons_zero, List.set_cons_succ]
      refine take_at (i := 21) (v := ?_) rfl rfl (by kernel_rfl) (by kernel_rfl) (by kernel_rfl) (fun _ _ _ h => h) (Or.inl ⟨by rfl, ?_⟩) hS ?_
      rotate_left
      · intro w hSw; (try dsimp only at hSw); go_simp; try with_reducible rfl
      try simp only [List.setIfInBounds_toArray, List.set_cons_zero, List.set_cons_succ]
      refine wpAnyH_done (by kernel_rfl) ?_ _
      simp only [Sure, Exit.then]
      clear hS g1 g2
      clear cD
      go_wp2
      go_roundw
      case rel => exact ⟨k + 1, by omega, by omega, by go_num, D9.out, B9.out⟩
      case measure => simp [intOf]; omega
    · have B3 := hid (B2.out.trans (BB.out.mono B2.out.size))
      have cD := DD.out.cell
      by_cases hkk2 : 0 ≤ kk ∧ kk < N
      rotate_left
      · have hq : kk < 0 ∨ (0 ≤ kk ∧ (N : Int) ≤ kk) := by omega
        clear hkk2
        have BYY := hid BB.out
        have DY := hid DD.out
        have BY := hid B3.out
        rcases hq with hq | ⟨hq, hq2⟩
        all_goals
          go_wp2_with (refine wpList_load_blk2 (t := 24) rfl rfl rfl Try.underlying24 rfl (by kernel_rfl) DY.out ?_)
          refine (index_any W E T J a a2 c c2 n n2 zs cs _ (RR.out.below BY.out) (R2.out.below BY.out) HN.out HN2.out hl (by omega)).mono ?_
          rintro e y1 ⟨x, rfl, hx, _, hb⟩
          have HBY := hid hb
          have D11 := hid (DY.out.below hb DY.out.lt)
          have B11 := hid (BY.out.trans (hb.mono BY.out.size))
          have HX2 := hid hx
          clear hb hx
          go_wp2_with (refine wpList_load_blk2 (t := 24) rfl rfl rfl Try.underlying24 rfl (by kernel_rfl) D11.out ?_)
          refine (pfits_any W E T J a a2 c c2 n n2 zs cs _ (RR.out.below B11.out) (R2.out.below B11.out) HN.out HN2.out hl (by omega)).mono ?_
          rintro e y2 ⟨rfl, hb⟩
          have B12 := hid (B11.out.trans (hb.mono B11.out.size))
          have HBY2 := hid (HBY.out.trans (hb.mono HBY.out.size))
          clear hb
          by_cases hfc : ftErr W E T J zs cs = 0
          rotate_left
          · have hz2 : (ftErr W E T J zs cs != 0) = true := by simpa using hfc
            clear hfc
            go_wp2_with (go_at_call 11; refine (awake_any _).mono ?_; rintro e v9 ⟨rfl, hb⟩)
            go_ret
            exact ⟨rfl, B12.out.trans (hb.mono B12.out.size)⟩
          obtain ⟨i, rfl, hi⟩ := HX2.out hfc
          rw [hfc]
          have hiN : i < N := by rw [← NN.out]; exact (List.getElem?_eq_some_iff.1 hi).1
          obtain ⟨l3, A3, k3, hx3, hv3, hq3⟩ := PU.out.at_ (k := i) (by rw [NN.out]; exact hiN)
          rw [hi] at hx3
          injection hx3 with hx3
          subst hx3
          obtain ⟨p3, o3, hA3, _, hc3⟩ := val_cell RU.out hiN hv3
          have e3 := hc3 y2 (BYY.out.trans (HBY2.out.mono BYY.out.size))
          have Q3 := hid ((hq3.below BYY.out).below HBY2.out)
          have hi2 : i < 1000000 := by omega
          clear hfc hi hv3 hq3 hc3
          first
            | subst hA3
            | (injection hA3 with hA3; injection hA3 with hA4 hA5 _; subst hA4 hA5)
          go_wp2_with (first
            | (go_at_call 26; refine (ints_any A3 a2 k3 c2 _ n2 cs cs _ Q3.out (R2.out.below B12.out) rfl HN2.out (by rw [← HN2.out]; omega)).mono ?_; rintro e y3 ⟨rfl, hb⟩; have B13 := hid (B12.out.trans (hb.mono B12.out.size)); clear hb; rw [show decide (cs = cs) = true by simp])
            | (go_at_call 11; refine (awake_any _).mono ?_; rintro e v9 ⟨rfl, hb⟩))
          go_ret
          exact ⟨rfl, B13.out.trans (hb.mono B13.out.size)⟩
      obtain ⟨hkk0, hkk1⟩ := hkk2
      obtain ⟨K, rfl⟩ : ∃ K : Nat, kk = (K : Int) := ⟨kk.toNat, by omega⟩
      have hKN : K < N := by omega
      obtain ⟨l1, A1, k1, hx1, hv1, hq1⟩ := PU.out.at_ (k := K) (by rw [NN.out]; exact hKN)
      obtain ⟨p1, o1, rfl, _, hc1⟩ := val_cell RU.out hKN hv1
      have L1 := hid (LEN.out l1 (List.mem_of_getElem? hx1))
      have FT1 := hid (FT0.out l1 (List.mem_of_getElem? hx1))
      have HX := hid hx1
      rw [L1.out] at hq1 hc1
      have e1 := hc1 _ BB.out
      have E1 := hid hc1
      have Q1 := hid (hq1.below BB.out)
      clear hc1 hx1 hq1 hv1
      go_upto_region 14 with fail
      refine wp_region_hand (fun w' => Blk w' w.heap.size 24 #[.int .i64 W, .int .i64 E, .int .i64 T, .int .i64 J, .slice a n c] ∧ w'.cell? ⟨p1, o1 + K, none⟩ = some (.slice A1 n k1)) (by kernel_rfl) ?_
      simp only [List.length_cons, List.length_nil, Nat.zero_add, Nat.reduceAdd]
      have hS : Blk wr.drew w.heap.size 24 #[.int .i64 W, .int .i64 E, .int .i64 T, .int .i64 J, .slice a n c] ∧ wr.drew.cell? ⟨p1, o1 + K, none⟩ = some (.slice A1 n k1) := ⟨DD.out, e1⟩
      refine take_at (i := 0) (v := .agg #[.int .i64 W, .int .i64 E, .int .i64 T, .int .i64 J, .slice a n c]) rfl rfl (by kernel_rfl) (by kernel_rfl) (by kernel_rfl) (fun _ _ _ h => h) (Or.inl ⟨by rfl, fun wi hSw => exec_loads (p := .pointer (some ⟨w.heap.size, 0, none⟩)) rfl rfl (load_blk hSw.1 Try.underlying24 rfl (by kernel_rfl))⟩) hS ?_
      try simp only [List.setIfInBounds_toArray, List.set_cons_zero, List.set_cons_succ]
      refine take_at (i := 1) (v := ?_) rfl rfl (by kernel_rfl) (by kernel_rfl) (by kernel_rfl) (fun _ _ _ h => h) (Or.inl ⟨by rfl, ?_⟩) hS ?_
      rotate_left
      · intro w hSw; (try dsimp only at hSw); go_simp; try with_reducible rfl
      try simp only [List.setIfInBounds_toArray, List.set_cons_zero, List.set_cons_succ]
      refine take_at (i := 2) (v := ?_) rfl rfl (by kernel_rfl) (by kernel_rfl) (by kernel_rfl) (fun _ _ _ h => h) (Or.inl ⟨by rfl, ?_⟩) hS ?_
      rotate_left
      · intro w hSw; (try dsimp only at hSw); go_simp; try with_reducible rfl
      try simp only [List.setIfInBounds_toArray, List.set_cons_zero, List.set_cons_succ]
      refine take_at (i := 3) (v := ?_) rfl rfl (by kernel_rfl) (by kernel_rfl) (by kernel_rfl) (fun _ _ _ h => h) (Or.inl ⟨by rfl, ?_⟩) hS ?_
      rotate_left
      · intro w hSw; (try dsimp only at hSw); go_simp; try with_reducible rfl
      try simp only [List.setIfInBounds_toArray, List.set_cons_zero, List.set_cons_succ]
      refine take_at (i := 4) (v := ?_) rfl rfl (by kernel_rfl) (by kernel_rfl) (by kernel_rfl) (fun _ _ _ h => h) (Or.inl ⟨by rfl, ?_⟩) hS ?_
      rotate_left
      · intro wi hSw; have ci0 := hSw.2; go_simp; try with_reducible rfl
      try simp only [List.setIfInBounds_toArray, List.set_cons_zero, List.set_cons_succ]
      refine wpAnyH_ready (rs := [5]) (by kernel_rfl) (by simp) ?_
      refine AllReadyH.cons rfl (fun K hK => ?_) AllReadyH.nil
      go_simp
      (go_at_call 21; refine (index_any W E T J a A1 c k1 n n zs l1 _ (RR.out.below (Below.drew B3.out)) (Q1.out.below (Below.drew (Below.refl _ _))) HN.out L1.out.symm hl (by omega)).mono ?_; rintro e w9 ⟨x, rfl, hx, _, hb⟩; have HB := (show Below wr.heap.size wr w9 from (Below.drew (Below.refl _ _)).trans hb); have D9 := hid (DD.out.below HB DD.out.lt); have B9 := hid (B3.out.trans (HB.mono B3.out.size)); have HB9 := hid HB; have g1 := E1.out _ (BB.out.trans (HB.mono BB.out.size)); rw [FT1.out]; obtain ⟨ix, rfl, hix⟩ := hx FT1.out; obtain rfl := pats_at HX.out hix; clear hb HB hS hx hix)
      refine hK.out _ _ ⟨D9.out, g1⟩ (fun hS => ?_)
      clear hK K
      try simp only [Act.put, List.setIfInBounds_toArray, List.set_cons_zero, List.set_cons_succ]
      refine take_at (i := 6) (v := ?_) rfl rfl (by kernel_rfl) (by kernel_rfl) (by kernel_rfl) (fun _ _ _ h => h) (Or.inl ⟨by rfl, ?_⟩) hS ?_
      rotate_left
      · intro w hSw; (try dsimp only at hSw); go_simp; try with_reducible rfl
      try simp only [List.setIfInBounds_toArray, List.set_cons_zero, List.set_cons_succ]
      refine take_at (i := 7) (v := ?_) rfl rfl (by kernel_rfl) (by kernel_rfl) (by kernel_rfl) (fun _ _ _ h => h) (Or.inl ⟨by rfl, ?_⟩) hS ?_
      rotate_left
      · intro w hSw; (try dsimp only at hSw); go_simp; try with_reducible rfl
      try simp only [List.setIfInBounds_toArray, List.set_cons_zero, List.set_cons_succ]
      refine take_at (i := 8) (v := ?_) rfl rfl (by kernel_rfl) (by kernel_rfl) (by kernel_rfl) (fun _ _ _ h => h) (Or.inl ⟨by rfl, ?_⟩) hS ?_
      rotate_left
      · intro w hSw; (try dsimp only at hSw); go_simp; try with_reducible rfl
      try simp only [List.setIfInBounds_toArray, List.set_cons_zero, List.set_cons_succ]
      refine take_at (i := 9) (v := ?_) rfl rfl (by kernel_rfl) (by kernel_rfl) (by kernel_rfl) (fun _ _ _ h => h) (Or.inl ⟨by rfl, ?_⟩) hS ?_
      rotate_left
      · intro w hSw; (try dsimp only at hSw); go_simp; try with_reducible rfl
      try simp only [List.setIfInBounds_toArray, List.set_cons_zero, List.set_cons_succ]
      refine take_at (i := 10) (v := ?_) rfl rfl (by kernel_rfl) (by kernel_rfl) (by kernel_rfl) (fun _ _ _ h => h) (Or.inl ⟨by rfl, ?_⟩) hS ?_
      rotate_left
      · intro w hSw; (try dsimp only at hSw); go_simp; try with_reducible rfl
      try simp only [List.setIfInBounds_toArray, List.set_cons_zero, List.set_cons_succ]
      refine wpAnyH_done (by kernel_rfl) ?_ _
      simp only [Sure, Exit.then]
      clear hS
      go_upto_region 15 with fail
      refine wp_region_hand (fun w' => Blk w' w.heap.size 24 #[.int .i64 W, .int .i64 E, .int .i64 T, .int .i64 J, .slice a n c] ∧ w'.cell? ⟨p1, o1 + K, none⟩ = some (.slice A1 n k1)) (by kernel_rfl) ?_
      simp only [List.length_cons, List.length_nil, Nat.zero_add, Nat.reduceAdd]
      have hS : Blk w9.drew w.heap.size 24 #[.int .i64 W, .int .i64 E, .int .i64 T, .int .i64 J, .slice a n c] ∧ w9.drew.cell? ⟨p1, o1 + K, none⟩ = some (.slice A1 n k1) := ⟨D9.out, g1⟩
      refine take_at (i := 0) (v := .agg #[.int .i64 W, .int .i64 E, .int .i64 T, .int .i64 J, .slice a n c]) rfl rfl (by kernel_rfl) (by kernel_rfl) (by kernel_rfl) (fun _ _ _ h => h) (Or.inl ⟨by rfl, fun wi hSw => exec_loads (p := .pointer (some ⟨w.heap.size, 0, none⟩)) rfl rfl (load_blk hSw.1 Try.underlying24 rfl (by kernel_rfl))⟩) hS ?_
      try simp only [List.setIfInBounds_toArray, List.set_cons_zero, List.set_cons_succ]
      refine take_at (i := 1) (v := ?_) rfl rfl (by kernel_rfl) (by kernel_rfl) (by kernel_rfl) (fun _ _ _ h => h) (Or.inl ⟨by rfl, ?_⟩) hS ?_
      rotate_left
      · intro w hSw; (try dsimp only at hSw); go_simp; try with_reducible rfl
      try simp only [List.setIfInBounds_toArray, List.set_cons_zero, List.set_cons_succ]
      refine take_at (i := 2) (v := ?_) rfl rfl (by kernel_rfl) (by kernel_rfl) (by kernel_rfl) (fun _ _ _ h => h) (Or.inl ⟨by rfl, ?_⟩) hS ?_
      rotate_left
      · intro w hSw; (try dsimp only at hSw); go_simp; try with_reducible rfl
      try simp only [List.setIfInBounds_toArray, List.set_cons_zero, List.set_cons_succ]
      refine take_at (i := 3) (v := ?_) rfl rfl (by kernel_rfl) (by kernel_rfl) (by kernel_rfl) (fun _ _ _ h => h) (Or.inl ⟨by rfl, ?_⟩) hS ?_
      rotate_left
      · intro w hSw; (try dsimp only at hSw); go_simp; try with_reducible rfl
      try simp only [List.setIfInBounds_toArray, List.set_cons_zero, List.set_cons_succ]
      refine take_at (i := 4) (v := ?_) rfl rfl (by kernel_rfl) (by kernel_rfl) (by kernel_rfl) (fun _ _ _ h => h) (Or.inl ⟨by rfl, ?_⟩) hS ?_
      rotate_left
      · intro wi hSw; have ci0 := hSw.2; go_simp; try with_reducible rfl
      try simp only [List.setIfInBounds_toArray, List.set_cons_zero, List.set_cons_succ]
      refine wpAnyH_ready (rs := [5]) (by kernel_rfl) (by simp) ?_
      refine AllReadyH.cons rfl (fun K hK => ?_) AllReadyH.nil
      go_simp
      (go_at_call 16; refine (pfits_any W E T J a A1 c k1 n n zs l1 _ (RR.out.below (Below.drew B9.out)) ((Q1.out.below HB9.out).drewK') HN.out L1.out.symm hl (by omega)).mono ?_; rintro e w10 ⟨rfl, hb⟩; have HB := (show Below w9.heap.size w9 w10 from (Below.drew (Below.refl _ _)).trans hb); have D10 := hid (D9.out.below HB D9.out.lt); have B10 := hid (B9.out.trans (HB.mono B9.out.size)); have HB10 := hid (HB9.out.trans (HB.mono HB9.out.size)); have g2 := E1.out _ (BB.out.trans (HB10.out.mono BB.out.size)); rw [FT1.out]; clear hb HB hS g1)
      refine hK.out _ _ ⟨D10.out, g2⟩ (fun hS => ?_)
      clear hK K
      try simp only [Act.put, List.setIfInBounds_toArray, List.set_cons_zero, List.set_cons_succ]
      refine take_at (i := 6) (v := ?_) rfl rfl (by kernel_rfl) (by kernel_rfl) (by kernel_rfl) (fun _ _ _ h => h) (Or.inl ⟨by rfl, ?_⟩) hS ?_
      rotate_left
      · intro w hSw; (try dsimp only at hSw); go_simp; try with_reducible rfl
      try simp only [List.setIfInBounds_toArray, List.set_cons_zero, List.set_cons_succ]
      refine take_at (i := 7) (v := ?_) rfl rfl (by kernel_rfl) (by kernel_rfl) (by kernel_rfl) (fun _ _ _ h => h) (Or.inl ⟨by rfl, ?_⟩) hS ?_
      rotate_left
      · intro w hSw; (try dsimp only at hSw); go_simp; try with_reducible rfl
      try simp only [List.setIfInBounds_toArray, List.set_cons_zero, List.set_cons_succ]
      refine take_at (i := 8) (v := ?_) rfl rfl (by kernel_rfl) (by kernel_rfl) (by kernel_rfl) (fun _ _ _ h => h) (Or.inl ⟨by rfl, ?_⟩) hS ?_
      rotate_left
      · intro w hSw; (try dsimp only at hSw); go_simp; try with_reducible rfl
      try simp only [List.setIfInBounds_toArray, List.set_cons_zero, List.set_cons_succ]
      refine take_at (i := 9) (v := ?_) rfl rfl (by kernel_rfl) (by kernel_rfl) (by kernel_rfl) (fun _ _ _ h => h) (Or.inl ⟨by rfl, ?_⟩) hS ?_
      rotate_left
      · intro w hSw; (try dsimp only at hSw); go_simp; try with_reducible rfl
      try simp only [List.setIfInBounds_toArray, List.set_cons_zero, List.set_cons_succ]
      refine take_at (i := 10) (v := ?_) rfl rfl (by kernel_rfl) (by kernel_rfl) (by kernel_rfl) (fun _ _ _ h => h) (Or.inl ⟨by rfl, ?_⟩) hS ?_
      rotate_left
      · intro w hSw; (try dsimp only at hSw); go_simp; try with_reducible rfl
      try simp only [List.setIfInBounds_toArray, List.set_cons_zero, List.set_cons_succ]
      refine take_at (i := 11) (v := ?_) rfl rfl (by kernel_rfl) (by kernel_rfl) (by kernel_rfl) (fun _ _ _ h => h) (Or.inl ⟨by rfl, ?_⟩) hS ?_
      rotate_left
      · intro w hSw; (try dsimp only at hSw); go_simp; try with_reducible rfl
      try simp only [List.setIfInBounds_toArray, List.set_cons_zero, List.set_cons_succ]
      refine take_at (i := 12) (v := ?_) rfl rfl (by kernel_rfl) (by kernel_rfl) (by kernel_rfl) (fun _ _ _ h => h) (Or.inl ⟨by rfl, ?_⟩) hS ?_
      rotate_left
      · intro w hSw; (try dsimp only at hSw); go_simp; try with_reducible rfl
      try simp only [List.setIfInBounds_toArray, List.set_cons_zero, List.set_cons_succ]
      refine take_at (i := 13) (v := ?_) rfl rfl (by kernel_rfl) (by kernel_rfl) (by kernel_rfl) (fun _ _ _ h => h) (Or.inl ⟨by rfl, ?_⟩) hS ?_
      rotate_left
      · intro w hSw; (try dsimp only at hSw); go_simp; try with_reducible rfl
      try simp only [List.setIfInBounds_toArray, List.set_cons_zero, List.set_cons_succ]
      refine take_at (i := 14) (v := ?_) rfl rfl (by kernel_rfl) (by kernel_rfl) (by kernel_rfl) (fun _ _ _ h => h) (Or.inl ⟨by rfl, ?_⟩) hS ?_
      rotate_left
      · intro w hSw; (try dsimp only at hSw); go_simp; try with_reducible rfl
      try simp only [List.setIfInBounds_toArray, List.set_cons_zero, List.set_cons_succ]
      refine take_at (i := 15) (v := ?_) rfl rfl (by kernel_rfl) (by kernel_rfl) (by kernel_rfl) (fun _ _ _ h => h) (Or.inl ⟨by rfl, ?_⟩) hS ?_
      rotate_left
      · intro w hSw; (try dsimp only at hSw); go_simp; try with_reducible rfl
      try simp only [List.setIfInBounds_toArray, List.set_cons_zero, List.set_cons_succ]
      refine wpAnyH_done (by kernel_rfl) ?_ _
      simp only [Sure, Exit.then]
      clear hS g2
      have BYY := hid (BB.out.trans (HB10.out.mono BB.out.size))
      have DY := hid D10.out
      have BY := hid B10.out
      clear cD
      go_wp2_with (refine wpList_load_blk2 (t := 24) rfl rfl rfl Try.underlying24 rfl (by kernel_rfl) DY.out ?_)
      refine (index_any W E T J a a2 c c2 n n2 zs cs _ (RR.out.below BY.out) (R2.out.below BY.out) HN.out HN2.out hl (by omega)).mono ?_
      rintro e y1 ⟨x, rfl, hx, _, hb⟩
      have HBY := hid hb
      have D11 := hid (DY.out.below hb DY.out.lt)
      have B11 := hid (BY.out.trans (hb.mono BY.out.size))
      have HX2 := hid hx
      clear hb hx
      go_wp2_with (refine wpList_load_blk2 (t := 24) rfl rfl rfl Try.underlying24 rfl (by kernel_rfl) D11.out ?_)
      refine (pfits_any W E T J a a2 c c2 n n2 zs cs _ (RR.out.below B11.out) (R2.out.below B11.out) HN.out HN2.out hl (by omega)).mono ?_
      rintro e y2 ⟨rfl, hb⟩
      have B12 := hid (B11.out.trans (hb.mono B11.out.size))
      have HBY2 := hid (HBY.out.trans (hb.mono HBY.out.size))
      clear hb
      by_cases hfc : ftErr W E T J zs cs = 0
      rotate_left
      · have hz2 : (ftErr W E T J zs cs != 0) = true := by simpa using hfc
        clear hfc
        go_wp2_with (go_at_call 11; refine (awake_any _).mono ?_; rintro e v9 ⟨rfl, hb⟩)
        go_ret
        exact ⟨rfl, B12.out.trans (hb.mono B12.out.size)⟩
      obtain ⟨i, rfl, hi⟩ := HX2.out hfc
      rw [hfc]
      have hiN : i < N := by rw [← NN.out]; exact (List.getElem?_eq_some_iff.1 hi).1
      obtain ⟨l3, A3, k3, hx3, hv3, hq3⟩ := PU.out.at_ (k := i) (by rw [NN.out]; exact hiN)
      rw [hi] at hx3
      injection hx3 with hx3
      subst hx3
      obtain ⟨p3, o3, hA3, _, hc3⟩ := val_cell RU.out hiN hv3
      have e3 := hc3 y2 (BYY.out.trans (HBY2.out.mono BYY.out.size))
      have Q3 := hid ((hq3.below BYY.out).below HBY2.out)
      have hi2 : i < 1000000 := by omega
      clear hfc hi hv3 hq3 hc3
      first
        | subst hA3
        | (injection hA3 with hA3; injection hA3 with hA4 hA5 _; subst hA4 hA5)
      go_wp2_with (first
        | (go_at_call 26; refine (ints_any A3 a2 k3 c2 _ n2 cs cs _ Q3.out (R2.out.below B12.out) rfl HN2.out (by rw [← HN2.out]; omega)).mono ?_; rintro e y3 ⟨rfl, hb⟩; have B13 := hid (B12.out.trans (hb.mono B12.out.size)); clear hb; rw [show decide (cs = cs) = true by simp])
        | (go_at_call 11; refine (awake_any _).mono ?_; rintro e v9 ⟨rfl, hb⟩))
      go_ret
      exact ⟨rfl, B13.out.trans (hb.mono B13.out.size)⟩
theorem patternAll_walk (x0 : Int) (x1 : Int) (x2 : Int) (x3 : Int) (a4 : Option Addr) (c4 : Nat) (x4 : List Int) (a5 : Option Addr) (c5 : Nat) (x5 : List Int) (x6 : Int) (w : World) (_h0 : (Lit.int .i64 x0).wf = true) (_h1 : (Lit.int .i64 x1).wf = true) (_h2 : (Lit.int .i64 x2).wf = true) (_h3 : (Lit.int .i64 x3).wf = true) (h4 : Rds Nn w 1 a4 x4.length (ints x4)) (g4 : x4.length ≤ c4 ∧ c4 ≤ maxLen ∧ (a4 = none → x4.length = 0 ∧ c4 = 0)) (_i4 : ∀ n ∈ x4, (Lit.int .i64 n).wf = true) (h5 : Rds Nn w 1 a5 x5.length (ints x5)) (g5 : x5.length ≤ c5 ∧ c5 ≤ maxLen ∧ (a5 = none → x5.length = 0 ∧ c5 = 0)) (_i5 : ∀ n ∈ x5, (Lit.int .i64 n).wf = true) (h6 : (Lit.int .i64 x6).wf = true) :
    Calls Try.prog 8 #[.agg #[.int .i64 x0, .int .i64 x1, .int .i64 x2, .int .i64 x3, .slice a4 x4.length c4], .slice a5 x5.length c5, .int .i64 x6] w fun e w' => e = .returned (.bool true) ∧ Below w.heap.size w w' := patternAll_in x0 x1 x2 x3 a4 a5 c4 c5 _ _ x4 x5 w h4 h5 rfl rfl (Nat.le_trans g4.1 g4.2.1) (Nat.le_trans g5.1 g5.2.1) x6 (by simp [Lit.wf, IntKind.min, IntKind.max, IntKind.bits, IntKind.signed] at h6; omega)
end Go.Proofs.Ytclmjllngcndbaa
