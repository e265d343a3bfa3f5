/- WebRests: for every input the law returns true. No condition. -/
import Derived.Test.YtfdblofpfpmbhaaWPlain2
import Derived.Test.YtfdblofpfpmbhaaMake
namespace Go.Proofs.Ytfdblofpfpmbhaa
open Go.RowKit

set_option linter.unusedSimpArgs false in
set_option maxRecDepth 100000 in
set_option maxHeartbeats 8000000 in
theorem webRests_in (b m : CP) (cp : Int) (x y : Int) (N : Nat) (hN : N ≤ 255) (w : World) : Calls Try.prog 8 #[.agg #[.int .i64 b.kp, .int .i64 b.ki, .int .i64 b.sh, .int .i64 b.lo, .int .i64 b.hi, .int .i64 b.rate, .int .i64 b.ga, .int .i64 b.la, .int .i64 b.de, .int .i64 m.kp, .int .i64 m.ki, .int .i64 m.sh, .int .i64 m.lo, .int .i64 m.hi, .int .i64 m.rate, .int .i64 m.ga, .int .i64 m.la, .int .i64 m.de, .int .i64 cp], .agg #[.int .i64 x, .int .i64 y], .int .u8 (N : Int)] w fun e w' => e = .returned (.bool true) ∧ Below w.heap.size w w' := by
  go_enter Try.func8, Try.ntmps8
  go_upto_region 1 with fail
  have W0 := hid (Blk.alloc (Blk.at_new w (b := w.heap.size) (t := 29) (cs := #[.int .i64 b.kp, .int .i64 b.ki, .int .i64 b.sh, .int .i64 b.lo, .int .i64 b.hi, .int .i64 b.rate, .int .i64 b.ga, .int .i64 b.la, .int .i64 b.de, .int .i64 m.kp, .int .i64 m.ki, .int .i64 m.sh, .int .i64 m.lo, .int .i64 m.hi, .int .i64 m.rate, .int .i64 m.ga, .int .i64 m.la, .int .i64 m.de, .int .i64 cp]) rfl) (.cells #[.int .i64 x, .int .i64 y] 31))
  have X0 := hid (Blk.at_new (w.alloc (.cells #[.int .i64 b.kp, .int .i64 b.ki, .int .i64 b.sh, .int .i64 b.lo, .int .i64 b.hi, .int .i64 b.rate, .int .i64 b.ga, .int .i64 b.la, .int .i64 b.de, .int .i64 m.kp, .int .i64 m.ki, .int .i64 m.sh, .int .i64 m.lo, .int .i64 m.hi, .int .i64 m.rate, .int .i64 m.ga, .int .i64 m.la, .int .i64 m.de, .int .i64 cp] 29)) (b := w.heap.size + 1) (t := 31) (cs := #[.int .i64 x, .int .i64 y]) (by simp))
  have B0 := hid (Below.alloc (Below.alloc (Below.refl w.heap.size w) (Nat.le_refl _) (.cells #[.int .i64 b.kp, .int .i64 b.ki, .int .i64 b.sh, .int .i64 b.lo, .int .i64 b.hi, .int .i64 b.rate, .int .i64 b.ga, .int .i64 b.la, .int .i64 b.de, .int .i64 m.kp, .int .i64 m.ki, .int .i64 m.sh, .int .i64 m.lo, .int .i64 m.hi, .int .i64 m.rate, .int .i64 m.ga, .int .i64 m.la, .int .i64 m.de, .int .i64 cp] 29)) (by simp) (.cells #[.int .i64 x, .int .i64 y] 31))
  generalize ((w.alloc (.cells #[.int .i64 b.kp, .int .i64 b.ki, .int .i64 b.sh, .int .i64 b.lo, .int .i64 b.hi, .int .i64 b.rate, .int .i64 b.ga, .int .i64 b.la, .int .i64 b.de, .int .i64 m.kp, .int .i64 m.ki, .int .i64 m.sh, .int .i64 m.lo, .int .i64 m.hi, .int .i64 m.rate, .int .i64 m.ga, .int .i64 m.la, .int .i64 m.de, .int .i64 cp] 29)).alloc (.cells #[.int .i64 x, .int .i64 y] 31)) = wa at W0 X0 B0 ⊢
  go_wp2_with (first
    | (refine wpList_load_blk2 (t := 29) rfl rfl rfl Try.underlying29 rfl (by kernel_rfl) W0.out ?_)
    | (refine wpList_load_blk2 (t := 31) rfl rfl rfl Try.underlying31 rfl (by kernel_rfl) X0.out ?_))
  refine (wrests_any b m cp x y _).mono ?_
  rintro e w1 ⟨oB, oM, vB, vM, er, rfl, hs, hb⟩
  have SP := hid hs
  have W1 := hid (Blk.below W0.out hb W0.out.lt)
  have X1 := hid (Blk.below X0.out hb X0.out.lt)
  have B1 := hid (B0.out.trans (hb.mono B0.out.size))
  have l1 := W1.out.lt
  have l2 := X1.out.lt
  clear hb hs
  go_upto_region 2 with (refine wpList_store_blk2 (b := w1.heap.size) (t := 33) (e := 33) (cs0 := #[.int .i64 0, .int .i64 0, .int .i64 0, .int .i64 0]) (cs := #[.int .i64 oB, .int .i64 oM, .int .i64 vB, .int .i64 vM]) rfl rfl rfl rfl (by kernel_rfl) rfl (by simp [Value.oneCell']) (Blk.at_new w1 rfl) ?_)
  have S2 := hid (Blk.row (Blk.at_new w1 (b := w1.heap.size) (t := 33) (cs := #[.int .i64 0, .int .i64 0, .int .i64 0, .int .i64 0]) rfl) #[.int .i64 oB, .int .i64 oM, .int .i64 vB, .int .i64 vM])
  have W2 := hid (Blk.rowOther (g := w1.heap.size) (Blk.alloc W1.out (.cells #[.int .i64 0, .int .i64 0, .int .i64 0, .int .i64 0] 33)) (by omega) #[.int .i64 oB, .int .i64 oM, .int .i64 vB, .int .i64 vM])
  have X2 := hid (Blk.rowOther (g := w1.heap.size) (Blk.alloc X1.out (.cells #[.int .i64 0, .int .i64 0, .int .i64 0, .int .i64 0] 33)) (by omega) #[.int .i64 oB, .int .i64 oM, .int .i64 vB, .int .i64 vM])
  have B2 := hid (Below.row (g := w1.heap.size) (Below.alloc B1.out B1.out.size (.cells #[.int .i64 0, .int .i64 0, .int .i64 0, .int .i64 0] 33)) B1.out.size #[.int .i64 oB, .int .i64 oM, .int .i64 vB, .int .i64 vM])
  generalize ((w1.alloc (.cells #[.int .i64 0, .int .i64 0, .int .i64 0, .int .i64 0] 33)).setRow w1.heap.size #[.int .i64 oB, .int .i64 oM, .int .i64 vB, .int .i64 vM]) = y2 at S2 W2 X2 B2 ⊢
  obtain ⟨g, hg⟩ : ∃ g, w1.heap.size = g := ⟨_, rfl⟩
  rw [hg] at S2 ⊢
  clear hg l1 l2
  by_cases her : er = 0
  rotate_left
  · obtain ⟨rfl, rfl, rfl, rfl⟩ := SP.out.2.2.1 her
    have hz : (er != 0) = true := by simpa using her
    have cS := S2.out.cell
    go_wp2_with (first
      | (refine wpList_load_blk2 (t := 33) rfl rfl rfl Try.underlying33 rfl (by kernel_rfl) S2.out ?_)
      | (go_at_call 14; refine (awake_any _).mono ?_; rintro e v9 ⟨rfl, hb⟩))
    go_ret
    exact ⟨rfl, B2.out.trans (hb.mono B2.out.size)⟩
  subst her
  have cX := X2.out.cell
  have cS := S2.out.cell
  by_cases hv : vB = x ∧ vM = y
  rotate_left
  · have hv2 : ¬ (vB = x) ∨ ¬ (vM = y) := by omega
    clear hv
    rcases hv2 with hv2 | hv2
    all_goals go_wp2_with (first
      | (refine wpList_load_part (t := 31) (l := #[.int .i64 vB, .int .i64 vM]) S2.out (by intro j v hj; match j, hj with | 0, hj => (simpa using hj) | 1, hj => (simpa using hj) | j + 2, hj => simp at hj) Try.underlying31 rfl (by kernel_rfl) rfl rfl rfl ?_)
      | (refine wpList_load_blk2 (t := 31) rfl rfl rfl Try.underlying31 rfl (by kernel_rfl) X2.out ?_)
      | (go_at_call 14; refine (awake_any _).mono ?_; rintro e v9 ⟨rfl, hb⟩))
    all_goals go_ret
    all_goals exact ⟨rfl, B2.out.trans (hb.mono B2.out.size)⟩
  obtain ⟨rfl, rfl⟩ := hv
  by_cases hN1 : N ≤ 100
  rotate_left
  · go_wp2_with (first
      | (refine wpList_load_part (t := 31) (l := #[.int .i64 vB, .int .i64 vM]) S2.out (by intro j v hj; match j, hj with | 0, hj => (simpa using hj) | 1, hj => (simpa using hj) | j + 2, hj => simp at hj) Try.underlying31 rfl (by kernel_rfl) rfl rfl rfl ?_)
      | (refine wpList_load_blk2 (t := 31) rfl rfl rfl Try.underlying31 rfl (by kernel_rfl) X2.out ?_)
      | (go_at_call 14; refine (awake_any _).mono ?_; rintro e v9 ⟨rfl, hb⟩))
    go_ret
    exact ⟨rfl, B2.out.trans (hb.mono B2.out.size)⟩
  go_wp2_with (first
      | (refine wpList_load_part (t := 31) (l := #[.int .i64 vB, .int .i64 vM]) S2.out (by intro j v hj; match j, hj with | 0, hj => (simpa using hj) | 1, hj => (simpa using hj) | j + 2, hj => simp at hj) Try.underlying31 rfl (by kernel_rfl) rfl rfl rfl ?_)
      | (refine wpList_load_blk2 (t := 31) rfl rfl rfl Try.underlying31 rfl (by kernel_rfl) X2.out ?_))
  go_loopw [9, 10] (fun u i wr => ∃ k : Nat, k ≤ N ∧ i = .int .i64 k ∧ wr.ownsRow y2.heap.size 31 2 u k (ints (List.replicate k [vB, vM]).flatten) ∧ Below y2.heap.size y2 wr) (fun _ i _ => N - (intOf i).toNat)
  case atStart => exact ⟨0, Nat.zero_le _, rfl, own_nil _ _ _ _, Below.refl _ _⟩
  case round =>
    obtain ⟨k, hk, rfl, hown, hbel⟩ := hrel
    have OW := hid hown
    have BB := hid hbel
    obtain ⟨A, cp2, rfl, _, _⟩ := own_form hown
    clear hown hbel cX cS
    by_cases hlt : k < N
    · have cX := (Blk.below X2.out BB.out X2.out.lt).cell
      have RP : Hid ((List.replicate (k + 1) [vB, vM]).flatten = (List.replicate k [vB, vM]).flatten ++ [vB, vM]) := hid (by rw [List.replicate_succ', List.flatten_append]; simp)
      go_wp2_with (first
        | (refine wpList_load_blk2 (t := 31) rfl rfl rfl Try.underlying31 rfl (by kernel_rfl) (Blk.below X2.out BB.out X2.out.lt) ?_)
        | (at_builtin; refine wpList_app infoR Try.underlying43 (by kernel_rfl) (by omega) (by omega) (own_keep (own_base_le OW.out (Nat.zero_le _)) ((Chg.refl Nn _).alloc _) (fun _ _ => id)) (Rds.pairAt _ _ _ _ _ rfl) (by intro u hu; simp at hu; rcases hu with rfl | rfl <;> rfl) (by omega) rfl rfl rfl rfl ?_; intro u6 w6 hown hchg hnew; have NR : Hid (∀ g, Rw (.slice A k cp2) g → y2.heap.size ≤ g) := hid (fun g hg => (own_blk OW.out g hg).1); have A5 := hid (Below.alloc BB.out BB.out.size (.cells #[.int .i64 vB, .int .i64 vM] 31)); have B6 := hid (hchg.then_below A5.out (fun j hj hf => by have h1 := NR.out j hf; omega) A5.out.size); have O6 := hid (own_rebase hown (base' := y2.heap.size) (fun g hg => (hnew g hg).elim (fun h => NR.out g h) (fun h => by have h2 := BB.out.size; simp at h; omega))); clear hown hchg hnew))
      go_roundw
      case rel => exact ⟨k + 1, by omega, by go_num, by rw [RP.out, ints_append]; exact O6.out, B6.out⟩
      case measure => simp [intOf]; omega
    · obtain rfl : k = N := by omega
      have RS := hid (Rds.own OW.out (S := Nn) (fun _ _ => id))
      have W3 := hid (Blk.below W2.out BB.out W2.out.lt)
      have X3 := hid (Blk.below X2.out BB.out X2.out.lt)
      have S3 := hid (Blk.below S2.out BB.out S2.out.lt)
      have B3 := hid (B2.out.trans (BB.out.mono B2.out.size))
      obtain ⟨hE, hR⟩ := rests_plain SP.out (k := k) (by omega)
      have HE := hid hE
      have HR := hid hR
      clear hE hR
      go_upto_region 11 with fail
      refine wp_region_hand (fun w' => Blk w' w.heap.size 29 #[.int .i64 b.kp, .int .i64 b.ki, .int .i64 b.sh, .int .i64 b.lo, .int .i64 b.hi, .int .i64 b.rate, .int .i64 b.ga, .int .i64 b.la, .int .i64 b.de, .int .i64 m.kp, .int .i64 m.ki, .int .i64 m.sh, .int .i64 m.lo, .int .i64 m.hi, .int .i64 m.rate, .int .i64 m.ga, .int .i64 m.la, .int .i64 m.de, .int .i64 cp] ∧ Blk w' (w.heap.size + 1) 31 #[.int .i64 vB, .int .i64 vM] ∧ Blk w' g 33 #[.int .i64 oB, .int .i64 oM, .int .i64 vB, .int .i64 vM]) (by kernel_rfl) ?_
      simp only [List.length_cons, List.length_nil, Nat.zero_add, Nat.reduceAdd]
      have hS : Blk wr.drew w.heap.size 29 #[.int .i64 b.kp, .int .i64 b.ki, .int .i64 b.sh, .int .i64 b.lo, .int .i64 b.hi, .int .i64 b.rate, .int .i64 b.ga, .int .i64 b.la, .int .i64 b.de, .int .i64 m.kp, .int .i64 m.ki, .int .i64 m.sh, .int .i64 m.lo, .int .i64 m.hi, .int .i64 m.rate, .int .i64 m.ga, .int .i64 m.la, .int .i64 m.de, .int .i64 cp] ∧ Blk wr.drew (w.heap.size + 1) 31 #[.int .i64 vB, .int .i64 vM] ∧ Blk wr.drew g 33 #[.int .i64 oB, .int .i64 oM, .int .i64 vB, .int .i64 vM] := ⟨W3.out, X3.out, S3.out⟩
      refine take_at (i := 0) (v := .agg #[.int .i64 b.kp, .int .i64 b.ki, .int .i64 b.sh, .int .i64 b.lo, .int .i64 b.hi, .int .i64 b.rate, .int .i64 b.ga, .int .i64 b.la, .int .i64 b.de, .int .i64 m.kp, .int .i64 m.ki, .int .i64 m.sh, .int .i64 m.lo, .int .i64 m.hi, .int .i64 m.rate, .int .i64 m.ga, .int .i64 m.la, .int .i64 m.de, .int .i64 cp]) rfl rfl (by kernel_rfl) (by kernel_rfl) (by kernel_rfl) (fun _ _ _ h => h) (Or.inl ⟨by rfl, fun wi hSw => exec_loads (p := .pointer (some ⟨w.heap.size, 0, none⟩)) rfl rfl (load_blk hSw.1 Try.underlying29 rfl (by kernel_rfl))⟩) hS ?_
      try simp only [List.setIfInBounds_toArray, List.set_cons_zero, List.set_cons_succ]
      refine take_at (i := 1) (v := .agg #[.int .i64 oB, .int .i64 oM, .int .i64 vB, .int .i64 vM]) rfl rfl (by kernel_rfl) (by kernel_rfl) (by kernel_rfl) (fun _ _ _ h => h) (Or.inl ⟨by rfl, fun wi hSw => exec_loads (p := .pointer (some ⟨g, 0, none⟩)) rfl rfl (load_blk hSw.2.2 Try.underlying33 rfl (by kernel_rfl))⟩) hS ?_
      try simp only [List.setIfInBounds_toArray, List.set_cons_zero, List.set_cons_succ]
      refine take_at (i := 2) (v := ?_) rfl rfl (by kernel_rfl) (by kernel_rfl) (by kernel_rfl) (fun _ _ _ h => h) (Or.inl ⟨by rfl, ?_⟩) hS ?_
      rotate_left
      · intro w hSw; (try dsimp only at hSw); go_simp; try with_reducible rfl
      try simp only [List.setIfInBounds_toArray, List.set_cons_zero, List.set_cons_succ]
      refine take_at (i := 3) (v := ?_) rfl rfl (by kernel_rfl) (by kernel_rfl) (by kernel_rfl) (fun _ _ _ h => h) (Or.inl ⟨by rfl, ?_⟩) hS ?_
      rotate_left
      · intro w hSw; (try dsimp only at hSw); go_simp; try with_reducible rfl
      try simp only [List.setIfInBounds_toArray, List.set_cons_zero, List.set_cons_succ]
      refine take_at (i := 4) (v := ?_) rfl rfl (by kernel_rfl) (by kernel_rfl) (by kernel_rfl) (fun _ _ _ h => h) (Or.inl ⟨by rfl, ?_⟩) hS ?_
      rotate_left
      · intro w hSw; (try dsimp only at hSw); go_simp; try with_reducible rfl
      try simp only [List.setIfInBounds_toArray, List.set_cons_zero, List.set_cons_succ]
      refine wpAnyH_ready (rs := [5]) (by kernel_rfl) (by simp) ?_
      refine AllReadyH.cons rfl (fun K hK => ?_) AllReadyH.nil
      refine step_make Try.underlying43 infoR (n := k) (by omega) (by omega) rfl rfl rfl rfl ?_
      have D4 := hid (Below.alloc (Below.drew (Below.refl wr.heap.size wr)) (by simp) (.cells (madeCells #[.int .i64 0, .int .i64 0] (k * 2)) 31))
      have Z4 := hid (zero_pairs wr.drew k 31)
      have W4 := hid (Blk.below W3.out D4.out W3.out.lt)
      have X4 := hid (Blk.below X3.out D4.out X3.out.lt)
      have S4 := hid (Blk.below S3.out D4.out S3.out.lt)
      have R4 := hid (RS.out.below D4.out)
      have B4 := hid (B3.out.trans (D4.out.mono B3.out.size))
      clear hS
      refine hK.out _ _ ⟨W4.out, X4.out, S4.out⟩ (fun hS => ?_)
      clear hK K
      try simp only [Act.put, List.setIfInBounds_toArray, List.set_cons_zero, List.set_cons_succ]
      refine wpAnyH_ready (rs := [6]) (by kernel_rfl) (by simp) ?_
      refine AllReadyH.cons rfl (fun K hK => ?_) AllReadyH.nil
      go_simp
      (go_at_call 16; refine (wrun_any b m cp oB oM vB vM _ _ _ _ _ _ (List.replicate k [vB, vM]) (List.replicate k [0, 0]) _ R4.out Z4.out (by intro r hr; rw [(List.mem_replicate.1 hr).2]; rfl) (by intro r hr; rw [(List.mem_replicate.1 hr).2]; rfl) (by simp) (by simp) (by omega) (by omega)).mono ?_; rintro e y5 ⟨u5, rfl, hu, hb⟩; have W5 := hid (Blk.below W4.out hb W4.out.lt); have X5 := hid (Blk.below X4.out hb X4.out.lt); have S5 := hid (Blk.below S4.out hb S4.out.lt); have B5 := hid (B4.out.trans (hb.mono B4.out.size)); rw [HE.out]; rw [HR.out] at hu; rw [List.length_replicate] at hu; obtain ⟨A5, c5, rfl, _, _⟩ := own_form hu; have RV := hid (Rds.own hu (S := Nn) (fun _ _ => id)); clear hu hb hS)
      refine hK.out _ _ ⟨W5.out, X5.out, S5.out⟩ (fun hS => ?_)
      clear hK K
      try simp only [Act.put, List.setIfInBounds_toArray, List.set_cons_zero, List.set_cons_succ]
      refine take_at (i := 7) (v := ?_) rfl rfl (by kernel_rfl) (by kernel_rfl) (by kernel_rfl) (fun _ _ _ h => h) (Or.inl ⟨by rfl, ?_⟩) hS ?_
      rotate_left
      · intro w hSw; (try dsimp only at hSw); go_simp; try with_reducible rfl
      try simp only [List.setIfInBounds_toArray, List.set_cons_zero, List.set_cons_succ]
      refine take_at (i := 8) (v := ?_) rfl rfl (by kernel_rfl) (by kernel_rfl) (by kernel_rfl) (fun _ _ _ h => h) (Or.inl ⟨by rfl, ?_⟩) hS ?_
      rotate_left
      · intro w hSw; (try dsimp only at hSw); go_simp; try with_reducible rfl
      try simp only [List.setIfInBounds_toArray, List.set_cons_zero, List.set_cons_succ]
      refine take_at (i := 9) (v := ?_) rfl rfl (by kernel_rfl) (by kernel_rfl) (by kernel_rfl) (fun _ _ _ h => h) (Or.inl ⟨by rfl, ?_⟩) hS ?_
      rotate_left
      · intro w hSw; (try dsimp only at hSw); go_simp; try with_reducible rfl
      try simp only [List.setIfInBounds_toArray, List.set_cons_zero, List.set_cons_succ]
      refine take_at (i := 10) (v := ?_) rfl rfl (by kernel_rfl) (by kernel_rfl) (by kernel_rfl) (fun _ _ _ h => h) (Or.inl ⟨by rfl, ?_⟩) hS ?_
      rotate_left
      · intro w hSw; (try dsimp only at hSw); go_simp; try with_reducible rfl
      try simp only [List.setIfInBounds_toArray, List.set_cons_zero, List.set_cons_succ]
      refine take_at (i := 11) (v := ?_) rfl rfl (by kernel_rfl) (by kernel_rfl) (by kernel_rfl) (fun _ _ _ h => h) (Or.inl ⟨by rfl, ?_⟩) hS ?_
      rotate_left
      · intro w hSw; (try dsimp only at hSw); go_simp; try with_reducible rfl
      try simp only [List.setIfInBounds_toArray, List.set_cons_zero, List.set_cons_succ]
      refine wpAnyH_done (by kernel_rfl) ?_ _
      simp only [Sure, Exit.then]
      clear hS
      go_wp2
      go_loopw [13] (fun i wr => ∃ j : Nat, j ≤ k ∧ i = .int .i64 j ∧ Blk wr (w.heap.size + 1) 31 #[.int .i64 vB, .int .i64 vM] ∧ Rds Nn wr 2 A5 k (ints (List.replicate k [vB, vM]).flatten) ∧ Below w.heap.size w wr) (fun i _ => k - (intOf i).toNat)
      case atStart => exact ⟨0, Nat.zero_le _, rfl, X5.out, RV.out, B5.out⟩
      case round =>
        obtain ⟨j, hj, rfl, hX, hR, hbel⟩ := hrel
        have X6 := hid hX
        have R6 := hid hR
        have B6 := hid hbel
        clear hX hR hbel
        by_cases hlt2 : j < k
        · obtain ⟨p, o, s, v, rfl, hp, he, hcell⟩ := cells_at R6.out (by intro r hr; rw [(List.mem_replicate.1 hr).2]; rfl) (by simp) hlt2
          rw [List.getElem?_replicate, if_pos hlt2] at he
          injection he with he
          injection he with e1 he
          injection he with e2 _
          subst e1 e2
          obtain ⟨e1, e2⟩ := hcell _ (Below.refl _ _)
          clear hcell
          go_upto_region 17 with fail
          refine wp_region_hand (fun w' => Blk w' (w.heap.size + 1) 31 #[.int .i64 vB, .int .i64 vM] ∧ w'.cell? ⟨p, o + j * 2, none⟩ = some (.int .i64 vB) ∧ w'.cell? ⟨p, o + j * 2 + 1, none⟩ = some (.int .i64 vM)) (by kernel_rfl) ?_
          simp only [List.length_cons, List.length_nil, Nat.zero_add, Nat.reduceAdd]
          have hS : Blk wr.drew (w.heap.size + 1) 31 #[.int .i64 vB, .int .i64 vM] ∧ wr.drew.cell? ⟨p, o + j * 2, none⟩ = some (.int .i64 vB) ∧ wr.drew.cell? ⟨p, o + j * 2 + 1, none⟩ = some (.int .i64 vM) := ⟨X6.out, e1, e2⟩
          refine take_at (i := 0) (v := ?_) rfl rfl (by kernel_rfl) (by kernel_rfl) (by kernel_rfl) (fun _ _ _ h => h) (Or.inl ⟨by rfl, ?_⟩) hS ?_
          rotate_left
          · intro w hSw; (try dsimp only at hSw); go_simp; try with_reducible rfl
          try simp only [List.setIfInBounds_toArray, List.set_cons_zero, List.set_cons_succ]
          refine take_at (i := 1) (v := ?_) rfl rfl (by kernel_rfl) (by kernel_rfl) (by kernel_rfl) (fun _ _ _ h => h) (Or.inl ⟨by rfl, ?_⟩) hS ?_
          rotate_left
          · intro w hSw; (try dsimp only at hSw); go_simp; try with_reducible rfl
          try simp only [List.setIfInBounds_toArray, List.set_cons_zero, List.set_cons_succ]
          refine take_at (i := 2) (v := ?_) rfl rfl (by kernel_rfl) (by kernel_rfl) (by kernel_rfl) (fun _ _ _ h => h) (Or.inl ⟨by rfl, ?_⟩) hS ?_
          rotate_left
          · intro w hSw; (try dsimp only at hSw); go_simp; try with_reducible rfl
          try simp only [List.setIfInBounds_toArray, List.set_cons_zero, List.set_cons_succ]
          refine take_at (i := 3) (v := .agg #[.int .i64 vB, .int .i64 vM]) rfl rfl (by kernel_rfl) (by kernel_rfl) (by kernel_rfl) (fun _ _ _ h => h) (Or.inl ⟨by rfl, fun wi hSw => exec_loads (p := .pointer (some ⟨p, o + j * 2, none⟩)) rfl rfl (load_two hSw.2.1 hSw.2.2 Try.underlying31 rfl (by kernel_rfl))⟩) hS ?_
          try simp only [List.setIfInBounds_toArray, List.set_cons_zero, List.set_cons_succ]
          refine take_at (i := 4) (v := .agg #[.int .i64 vB, .int .i64 vM]) rfl rfl (by kernel_rfl) (by kernel_rfl) (by kernel_rfl) (fun _ _ _ h => h) (Or.inl ⟨by rfl, fun wi hSw => exec_loads (p := .pointer (some ⟨w.heap.size + 1, 0, none⟩)) rfl rfl (load_blk hSw.1 Try.underlying31 rfl (by kernel_rfl))⟩) hS ?_
          try simp only [List.setIfInBounds_toArray, List.set_cons_zero, List.set_cons_succ]
          refine take_at (i := 5) (v := ?_) rfl rfl (by kernel_rfl) (by kernel_rfl) (by kernel_rfl) (fun _ _ _ h => h) (Or.inl ⟨by rfl, ?_⟩) hS ?_
          rotate_left
          · intro w hSw; (try dsimp only at hSw); go_simp; try with_reducible rfl
          try simp only [List.setIfInBounds_toArray, List.set_cons_zero, List.set_cons_succ]
          refine wpAnyH_done (by kernel_rfl) ?_ _
          simp only [Sure, Exit.then]
          clear hS
          go_wp2
          go_roundw
          case rel => exact ⟨j + 1, by omega, by go_num, X6.out, R6.out.drewK, B6.out.drew⟩
          case measure => simp [intOf]; omega
        · obtain rfl : j = k := by omega
          go_wp2_with (go_at_call 14; refine (awake_any _).mono ?_; rintro e v9 ⟨rfl, hb⟩)
          go_ret
          exact ⟨rfl, B6.out.trans (hb.mono B6.out.size)⟩

theorem webRests_walk (x0 : Int) (x1 : Int) (x2 : Int) (x3 : Int) (x4 : Int) (x5 : Int) (x6 : Int) (x7 : Int) (x8 : Int) (x9 : Int) (x10 : Int) (x11 : Int) (x12 : Int) (x13 : Int) (x14 : Int) (x15 : Int) (x16 : Int) (x17 : Int) (x18 : Int) (x19 : Int) (x20 : Int) (x21 : Int) (w : World) (_h0 : (Lit.int .i64 x0).wf = true) (_h1 : (Lit.int .i64 x1).wf = true) (_h2 : (Lit.int .i64 x2).wf = true) (_h3 : (Lit.int .i64 x3).wf = true) (_h4 : (Lit.int .i64 x4).wf = true) (_h5 : (Lit.int .i64 x5).wf = true) (_h6 : (Lit.int .i64 x6).wf = true) (_h7 : (Lit.int .i64 x7).wf = true) (_h8 : (Lit.int .i64 x8).wf = true) (_h9 : (Lit.int .i64 x9).wf = true) (_h10 : (Lit.int .i64 x10).wf = true) (_h11 : (Lit.int .i64 x11).wf = true) (_h12 : (Lit.int .i64 x12).wf = true) (_h13 : (Lit.int .i64 x13).wf = true) (_h14 : (Lit.int .i64 x14).wf = true) (_h15 : (Lit.int .i64 x15).wf = true) (_h16 : (Lit.int .i64 x16).wf = true) (_h17 : (Lit.int .i64 x17).wf = true) (_h18 : (Lit.int .i64 x18).wf = true) (_h19 : (Lit.int .i64 x19).wf = true) (_h20 : (Lit.int .i64 x20).wf = true) (h21 : (Lit.int .u8 x21).wf = true) :
    Calls Try.prog 8 #[.agg #[.int .i64 x0, .int .i64 x1, .int .i64 x2, .int .i64 x3, .int .i64 x4, .int .i64 x5, .int .i64 x6, .int .i64 x7, .int .i64 x8, .int .i64 x9, .int .i64 x10, .int .i64 x11, .int .i64 x12, .int .i64 x13, .int .i64 x14, .int .i64 x15, .int .i64 x16, .int .i64 x17, .int .i64 x18], .agg #[.int .i64 x19, .int .i64 x20], .int .u8 x21] w fun e w' => e = .returned (.bool true) ∧ Below w.heap.size w w' := by
  obtain ⟨N, rfl⟩ : ∃ N : Nat, x21 = (N : Int) := ⟨x21.toNat, by simp [Lit.wf, IntKind.min, IntKind.max, IntKind.bits, IntKind.signed] at h21; omega⟩
  exact webRests_in ⟨x0, x1, x2, x3, x4, x5, x6, x7, x8⟩ ⟨x9, x10, x11, x12, x13, x14, x15, x16, x17⟩ x18 x19 x20 N (by simp [Lit.wf, IntKind.min, IntKind.max, IntKind.bits, IntKind.signed] at h21; omega) w
end Go.Proofs.Ytfdblofpfpmbhaa
