/- Chapter 32: what the laws share. -/
import Derived.Test.YtddphdkhaaolmaaG7
namespace Go.Proofs.Ytddphdkhaaolmaa
open Go.RowKit

/-- The loop of the examples. -/
def LP : CP := ⟨0, 256, 8, 0, 1000, 10, 256, 1, 0⟩
set_option linter.unusedSimpArgs false in
set_option maxRecDepth 100000 in
theorem loops_any (w : World) : Calls Try.prog 26 #[.int .i64 10] w fun e w' => e = .returned (.agg #[.int .i64 0, .int .i64 256, .int .i64 8, .int .i64 0, .int .i64 1000, .int .i64 10, .int .i64 256, .int .i64 1, .int .i64 0, .int .i64 0, .int .i64 256, .int .i64 8, .int .i64 0, .int .i64 1000, .int .i64 10, .int .i64 256, .int .i64 1, .int .i64 0, .int .i64 128]) ∧ Below w.heap.size w w' := by
  go_enter Try.func26, Try.ntmps26
  go_upto_region 2 with (refine wpList_store_blk2 (b := w.heap.size + 1) (t := 27) (e := 27) (cs0 := #[.int .i64 0, .int .i64 0, .int .i64 0, .int .i64 0, .int .i64 0, .int .i64 0, .int .i64 0, .int .i64 0, .int .i64 0]) (cs := #[.int .i64 0, .int .i64 256, .int .i64 8, .int .i64 0, .int .i64 1000, .int .i64 10, .int .i64 256, .int .i64 1, .int .i64 0]) rfl rfl rfl rfl (by kernel_rfl) rfl (by simp [Value.oneCell']) (Blk.at_new _ (by simp)) ?_)
  have C1 := hid (Blk.row (Blk.at_new (w.alloc (.cells #[.int .i64 0, .int .i64 0, .int .i64 0, .int .i64 0, .int .i64 0, .int .i64 0, .int .i64 0, .int .i64 0, .int .i64 0, .int .i64 0, .int .i64 0, .int .i64 0, .int .i64 0, .int .i64 0, .int .i64 0, .int .i64 0, .int .i64 0, .int .i64 0, .int .i64 0] 29)) (b := w.heap.size + 1) (t := 27) (cs := #[.int .i64 0, .int .i64 0, .int .i64 0, .int .i64 0, .int .i64 0, .int .i64 0, .int .i64 0, .int .i64 0, .int .i64 0]) (by simp)) #[.int .i64 0, .int .i64 256, .int .i64 8, .int .i64 0, .int .i64 1000, .int .i64 10, .int .i64 256, .int .i64 1, .int .i64 0])
  have W1 := hid (Blk.rowOther (g := w.heap.size + 1) (Blk.alloc (Blk.at_new w (b := w.heap.size) (t := 29) (cs := #[.int .i64 0, .int .i64 0, .int .i64 0, .int .i64 0, .int .i64 0, .int .i64 0, .int .i64 0, .int .i64 0, .int .i64 0, .int .i64 0, .int .i64 0, .int .i64 0, .int .i64 0, .int .i64 0, .int .i64 0, .int .i64 0, .int .i64 0, .int .i64 0, .int .i64 0]) rfl) (.cells #[.int .i64 0, .int .i64 0, .int .i64 0, .int .i64 0, .int .i64 0, .int .i64 0, .int .i64 0, .int .i64 0, .int .i64 0] 27)) (by omega) #[.int .i64 0, .int .i64 256, .int .i64 8, .int .i64 0, .int .i64 1000, .int .i64 10, .int .i64 256, .int .i64 1, .int .i64 0])
  have B1 := hid (Below.row (g := w.heap.size + 1) (Below.alloc (Below.alloc (Below.refl w.heap.size w) (Nat.le_refl _) (.cells #[.int .i64 0, .int .i64 0, .int .i64 0, .int .i64 0, .int .i64 0, .int .i64 0, .int .i64 0, .int .i64 0, .int .i64 0, .int .i64 0, .int .i64 0, .int .i64 0, .int .i64 0, .int .i64 0, .int .i64 0, .int .i64 0, .int .i64 0, .int .i64 0, .int .i64 0] 29)) (by simp) (.cells #[.int .i64 0, .int .i64 0, .int .i64 0, .int .i64 0, .int .i64 0, .int .i64 0, .int .i64 0, .int .i64 0, .int .i64 0] 27)) (by omega) #[.int .i64 0, .int .i64 256, .int .i64 8, .int .i64 0, .int .i64 1000, .int .i64 10, .int .i64 256, .int .i64 1, .int .i64 0])
  generalize (((w.alloc (.cells #[.int .i64 0, .int .i64 0, .int .i64 0, .int .i64 0, .int .i64 0, .int .i64 0, .int .i64 0, .int .i64 0, .int .i64 0, .int .i64 0, .int .i64 0, .int .i64 0, .int .i64 0, .int .i64 0, .int .i64 0, .int .i64 0, .int .i64 0, .int .i64 0, .int .i64 0] 29)).alloc (.cells #[.int .i64 0, .int .i64 0, .int .i64 0, .int .i64 0, .int .i64 0, .int .i64 0, .int .i64 0, .int .i64 0, .int .i64 0] 27)).setRow (w.heap.size + 1) #[.int .i64 0, .int .i64 256, .int .i64 8, .int .i64 0, .int .i64 1000, .int .i64 10, .int .i64 256, .int .i64 1, .int .i64 0]) = wa at C1 W1 B1 ⊢
  go_wp2_with (first
    | (refine wpList_load_blk2 (t := 27) rfl rfl rfl Try.underlying27 rfl (by kernel_rfl) C1.out ?_)
    | (refine wpList_store_blk2 (b := w.heap.size) (t := 29) (e := 29) (cs0 := #[.int .i64 0, .int .i64 0, .int .i64 0, .int .i64 0, .int .i64 0, .int .i64 0, .int .i64 0, .int .i64 0, .int .i64 0, .int .i64 0, .int .i64 0, .int .i64 0, .int .i64 0, .int .i64 0, .int .i64 0, .int .i64 0, .int .i64 0, .int .i64 0, .int .i64 0]) (cs := #[.int .i64 0, .int .i64 256, .int .i64 8, .int .i64 0, .int .i64 1000, .int .i64 10, .int .i64 256, .int .i64 1, .int .i64 0, .int .i64 0, .int .i64 256, .int .i64 8, .int .i64 0, .int .i64 1000, .int .i64 10, .int .i64 256, .int .i64 1, .int .i64 0, .int .i64 128]) rfl rfl rfl rfl (by kernel_rfl) rfl (by simp [Value.oneCell']) W1.out ?_))
  refine bodyPost_ret (v := .agg #[.int .i64 0, .int .i64 256, .int .i64 8, .int .i64 0, .int .i64 1000, .int .i64 10, .int .i64 256, .int .i64 1, .int .i64 0, .int .i64 0, .int .i64 256, .int .i64 8, .int .i64 0, .int .i64 1000, .int .i64 10, .int .i64 256, .int .i64 1, .int .i64 0, .int .i64 128]) (results_cell rfl rfl (Blk.row W1.out _) Try.underlying29 rfl (by kernel_rfl)) rfl ?_
  exact ⟨rfl, Below.row B1.out (Nat.le_refl _) _⟩
theorem lp_rest (n : Int) (h : 0 ≤ n ∧ n ≤ 1000) : LP.IsRest n n := by
  have ht : ∀ m : Int, tgt 256 m = m := fun m => by unfold tgt; omega
  refine ⟨h.1, h.2, fun m h1 h2 => ?_⟩
  unfold farI
  show max (tgt 256 n - n) (n - tgt 256 n) < max (tgt 256 m - n) (n - tgt 256 m) ∨ _
  rw [ht, ht]
  by_cases hm : m = n
  · subst hm
    refine .inr ⟨?_, Int.le_refl _⟩
    rfl
  · refine .inl ?_
    omega
theorem lp_chk : chkW LP LP 128 = 0 := by decide +kernel
def OLD : GR := ⟨ByteArray.empty, 500, 0, 80, 0, 0, none, 0, 0, 0⟩
def NEW : GR := ⟨ByteArray.empty, 525, 6, 80, 5, 0, none, 0, 0, 0⟩
def W5 : List (List Int) := [[510, 72], [520, 85], [525, 83], [525, 80], [525, 80]]
set_option linter.unusedSimpArgs false in
set_option maxRecDepth 100000 in
set_option maxHeartbeats 16000000 in
theorem old_any (w : World) : Calls Try.prog 27 #[] w fun e w' => e = .returned (.agg #[.string OLD.nm, .int .i64 OLD.bs, .int .i64 OLD.bt, .int .i64 OLD.mo, .int .i64 OLD.mt, .int .i64 OLD.ca, .slice OLD.ra OLD.rn OLD.rc, .int .i64 OLD.pr]) ∧ Below w.heap.size w w' := by
  go_enter Try.func27, Try.ntmps27
  go_wp2
  refine bodyPost_ret (v := .agg #[.string ByteArray.empty, .int .i64 500, .int .i64 0, .int .i64 80, .int .i64 0, .int .i64 0, .slice none 0 0, .int .i64 0]) (results_cell rfl rfl (Blk.at_new w rfl) Try.underlying32 rfl (by kernel_rfl)) rfl ?_
  exact ⟨rfl, (Below.refl _ _).alloc (Nat.le_refl _) _⟩
set_option linter.unusedSimpArgs false in
set_option maxRecDepth 100000 in
set_option maxHeartbeats 16000000 in
theorem fresh_any (w : World) : Calls Try.prog 28 #[] w fun e w' => e = .returned (.agg #[.string NEW.nm, .int .i64 NEW.bs, .int .i64 NEW.bt, .int .i64 NEW.mo, .int .i64 NEW.mt, .int .i64 NEW.ca, .slice NEW.ra NEW.rn NEW.rc, .int .i64 NEW.pr]) ∧ Below w.heap.size w w' := by
  go_enter Try.func28, Try.ntmps28
  go_wp2
  refine bodyPost_ret (v := .agg #[.string ByteArray.empty, .int .i64 525, .int .i64 6, .int .i64 80, .int .i64 5, .int .i64 0, .slice none 0 0, .int .i64 0]) (results_cell rfl rfl (Blk.at_new w rfl) Try.underlying32 rfl (by kernel_rfl)) rfl ?_
  exact ⟨rfl, (Below.refl _ _).alloc (Nat.le_refl _) _⟩
theorem aw_spec (n : Int) (N : Nat) (hN : n = N) (h5 : N ≤ 512) {pe : Int} {l : List (List Int)} (h : PSpec LP LP 128 OLD NEW n pe l) : pe = wErr LP LP 128 500 80 500 80 (List.replicate N [525, 80]) (List.replicate N [0, 0]) ∧ l = wRows LP LP 128 500 80 500 80 (List.replicate N [525, 80]) (List.replicate N [0, 0]) := by
  subst hN
  have ht : ∀ m : Int, tgt 256 m = m := fun m => by unfold tgt; omega
  have hk : RestSpec LP LP 128 500 80 500 80 500 80 0 := ⟨fun h => absurd lp_chk h, fun _ h => absurd (by decide) h, fun h => absurd rfl h, fun _ _ => ⟨rfl, lp_rest 500 (by omega), lp_rest 80 (by omega), (ht 500).symm, (ht 80).symm⟩⟩
  have ho : okPath OLD NEW (N : Int) := ⟨by decide, by decide, by omega, by omega⟩
  obtain ⟨oB, oM, vB, vM, hr, h1, h2⟩ := h.2.2 lp_chk ho
  obtain ⟨rfl, rfl, rfl, rfl, _⟩ := rest_same hr hk
  exact ⟨h1, h2⟩
theorem aw_vals : wErr LP LP 128 500 80 500 80 (List.replicate 5 [525, 80]) (List.replicate 5 [0, 0]) = 0 ∧ wRows LP LP 128 500 80 500 80 (List.replicate 5 [525, 80]) (List.replicate 5 [0, 0]) = W5 ∧ wErr LP LP 128 500 80 500 80 (List.replicate 10 [525, 80]) (List.replicate 10 [0, 0]) = 0 ∧ scan NEW 1 0 0 (wRows LP LP 128 500 80 500 80 (List.replicate 10 [525, 80]) (List.replicate 10 [0, 0])) = 2 ∧ scan NEW 3 0 0 (wRows LP LP 128 500 80 500 80 (List.replicate 10 [525, 80]) (List.replicate 10 [0, 0])) = 4 ∧ wErr LP LP 128 500 80 500 80 (List.replicate 3 [525, 80]) (List.replicate 3 [0, 0]) = 0 ∧ scan NEW 3 0 0 (wRows LP LP 128 500 80 500 80 (List.replicate 3 [525, 80]) (List.replicate 3 [0, 0])) = 0 := by decide +kernel
theorem aw_path {pe : Int} {l : List (List Int)} (h : PSpec LP LP 128 OLD NEW 5 pe l) : pe = 0 ∧ l = W5 := by
  obtain ⟨rfl, rfl⟩ := aw_spec 5 5 rfl (by decide) h
  exact ⟨aw_vals.1, aw_vals.2.1⟩
theorem aw_st {H M v er x : Int} {N : Nat} (hM : M = N) (hr : ruErr H M 5 = 0) (h : SSpec LP LP 128 OLD NEW H M 5 v er) (h5 : N ≤ 512) (he : wErr LP LP 128 500 80 500 80 (List.replicate N [525, 80]) (List.replicate N [0, 0]) = 0) (hx : scan NEW H 0 0 (wRows LP LP 128 500 80 500 80 (List.replicate N [525, 80]) (List.replicate N [0, 0])) = x) : v = x ∧ er = if x = 0 then 32 else 0 := by
  obtain ⟨pe, l, hp, _, h4⟩ := h.2 hr
  obtain ⟨rfl, rfl⟩ := aw_spec M N hM h5 hp
  obtain ⟨h6, h7⟩ := h4 he
  rw [hx] at h6 h7
  exact ⟨h6, h7⟩
theorem aw_pa : paLen 5 20000 5000 4 0 = 400000 ∧ paMass OLD NEW 5 20000 5000 4 0 = 1050 ∧ paErr 5 20000 5000 4 0 = 0 := by decide +kernel
set_option linter.unusedSimpArgs false in
set_option maxRecDepth 100000 in
set_option maxHeartbeats 16000000 in
theorem awake_any (w : World) : Calls Try.prog 11 #[] w fun e w' => e = .returned (.bool true) ∧ Below w.heap.size w w' := by
  have B0 := hid (Below.refl w.heap.size w)
  go_enter Try.func11, Try.ntmps11
  go_wp2_with fail
  refine (loops_any _).mono ?_
  rintro e w1 ⟨rfl, hb⟩
  have B1 := hid hb
  clear hb
  have Z1 := hid (Blk.at_new w1 (b := w1.heap.size) (t := 29) (cs := #[.int .i64 0, .int .i64 0, .int .i64 0, .int .i64 0, .int .i64 0, .int .i64 0, .int .i64 0, .int .i64 0, .int .i64 0, .int .i64 0, .int .i64 0, .int .i64 0, .int .i64 0, .int .i64 0, .int .i64 0, .int .i64 0, .int .i64 0, .int .i64 0, .int .i64 0]) rfl)
  have D2 := hid (Blk.row Z1.out #[.int .i64 0, .int .i64 256, .int .i64 8, .int .i64 0, .int .i64 1000, .int .i64 10, .int .i64 256, .int .i64 1, .int .i64 0, .int .i64 0, .int .i64 256, .int .i64 8, .int .i64 0, .int .i64 1000, .int .i64 10, .int .i64 256, .int .i64 1, .int .i64 0, .int .i64 128])
  have B2 := hid (Below.row (B1.out.alloc B1.out.size (.cells #[.int .i64 0, .int .i64 0, .int .i64 0, .int .i64 0, .int .i64 0, .int .i64 0, .int .i64 0, .int .i64 0, .int .i64 0, .int .i64 0, .int .i64 0, .int .i64 0, .int .i64 0, .int .i64 0, .int .i64 0, .int .i64 0, .int .i64 0, .int .i64 0, .int .i64 0] 29)) B1.out.size #[.int .i64 0, .int .i64 256, .int .i64 8, .int .i64 0, .int .i64 1000, .int .i64 10, .int .i64 256, .int .i64 1, .int .i64 0, .int .i64 0, .int .i64 256, .int .i64 8, .int .i64 0, .int .i64 1000, .int .i64 10, .int .i64 256, .int .i64 1, .int .i64 0, .int .i64 128])
  go_upto_region 2 with (refine wpList_store_blk2 (b := w1.heap.size) (t := 29) (e := 29) (cs0 := #[.int .i64 0, .int .i64 0, .int .i64 0, .int .i64 0, .int .i64 0, .int .i64 0, .int .i64 0, .int .i64 0, .int .i64 0, .int .i64 0, .int .i64 0, .int .i64 0, .int .i64 0, .int .i64 0, .int .i64 0, .int .i64 0, .int .i64 0, .int .i64 0, .int .i64 0]) (cs := #[.int .i64 0, .int .i64 256, .int .i64 8, .int .i64 0, .int .i64 1000, .int .i64 10, .int .i64 256, .int .i64 1, .int .i64 0, .int .i64 0, .int .i64 256, .int .i64 8, .int .i64 0, .int .i64 1000, .int .i64 10, .int .i64 256, .int .i64 1, .int .i64 0, .int .i64 128]) rfl rfl rfl rfl (by kernel_rfl) rfl (by simp [Value.oneCell']) Z1.out ?_)
  clear Z1
  generalize (w1.alloc (.cells #[.int .i64 0, .int .i64 0, .int .i64 0, .int .i64 0, .int .i64 0, .int .i64 0, .int .i64 0, .int .i64 0, .int .i64 0, .int .i64 0, .int .i64 0, .int .i64 0, .int .i64 0, .int .i64 0, .int .i64 0, .int .i64 0, .int .i64 0, .int .i64 0, .int .i64 0] 29)).setRow w1.heap.size #[.int .i64 0, .int .i64 256, .int .i64 8, .int .i64 0, .int .i64 1000, .int .i64 10, .int .i64 256, .int .i64 1, .int .i64 0, .int .i64 0, .int .i64 256, .int .i64 8, .int .i64 0, .int .i64 1000, .int .i64 10, .int .i64 256, .int .i64 1, .int .i64 0, .int .i64 128] = w2 at *
  have E2 := hid (Below.refl w2.heap.size w2)
  go_upto_region 2 with fail
  refine wp_region_hand (fun w' => Blk w' w1.heap.size 29 #[.int .i64 0, .int .i64 256, .int .i64 8, .int .i64 0, .int .i64 1000, .int .i64 10, .int .i64 256, .int .i64 1, .int .i64 0, .int .i64 0, .int .i64 256, .int .i64 8, .int .i64 0, .int .i64 1000, .int .i64 10, .int .i64 256, .int .i64 1, .int .i64 0, .int .i64 128]) (by kernel_rfl) ?_
  simp only [List.length_cons, List.length_nil, Nat.zero_add, Nat.reduceAdd]
  have hS : Blk w2.drew w1.heap.size 29 #[.int .i64 0, .int .i64 256, .int .i64 8, .int .i64 0, .int .i64 1000, .int .i64 10, .int .i64 256, .int .i64 1, .int .i64 0, .int .i64 0, .int .i64 256, .int .i64 8, .int .i64 0, .int .i64 1000, .int .i64 10, .int .i64 256, .int .i64 1, .int .i64 0, .int .i64 128] := D2.out
  refine take_at (i := 0) (v := .agg #[.int .i64 0, .int .i64 256, .int .i64 8, .int .i64 0, .int .i64 1000, .int .i64 10, .int .i64 256, .int .i64 1, .int .i64 0, .int .i64 0, .int .i64 256, .int .i64 8, .int .i64 0, .int .i64 1000, .int .i64 10, .int .i64 256, .int .i64 1, .int .i64 0, .int .i64 128]) rfl rfl (by kernel_rfl) (by kernel_rfl) (by kernel_rfl) (fun _ _ _ h => h) (Or.inl ⟨by rfl, fun wi hSw => exec_loads (p := .pointer (some ⟨w1.heap.size, 0, none⟩)) rfl rfl (load_blk hSw Try.underlying29 rfl (by kernel_rfl))⟩) hS ?_
  try simp only [List.setIfInBounds_toArray, List.set_cons_zero, List.set_cons_succ]
  refine wpAnyH_ready (rs := [1]) (by kernel_rfl) (by simp) ?_
  refine AllReadyH.cons rfl (fun K hK => ?_) AllReadyH.nil
  go_simp
  (go_at_call 27; refine (old_any _).mono ?_; rintro e x2 ⟨rfl, hb⟩; have HB := hid (show Below w2.heap.size w2 x2 from by first | exact hb | exact (Below.drew (Below.refl _ _)).trans hb); have DX2 := hid (D2.out.below HB.out D2.out.lt); have BX2 := hid (B2.out.trans (HB.out.mono B2.out.size)); have EX2 := hid (E2.out.trans (HB.out.mono E2.out.size)); clear hb HB hS)
  refine hK.out _ _ DX2.out (fun hS => ?_)
  clear hK K
  try simp only [Act.put, List.setIfInBounds_toArray, List.set_cons_zero, List.set_cons_succ]
  refine wpAnyH_ready (rs := [2]) (by kernel_rfl) (by simp) ?_
  refine AllReadyH.cons rfl (fun K hK => ?_) AllReadyH.nil
  go_simp
  (go_at_call 28; refine (fresh_any _).mono ?_; rintro e y2 ⟨rfl, hb⟩; have DY2 := hid (DX2.out.below hb DX2.out.lt); have BY2 := hid (BX2.out.trans (hb.mono BX2.out.size)); have EY2 := hid (EX2.out.trans (hb.mono EX2.out.size)); clear hb hS)
  refine hK.out _ _ DY2.out (fun hS => ?_)
  clear hK K
  try simp only [Act.put, List.setIfInBounds_toArray, List.set_cons_zero, List.set_cons_succ]
  refine wpAnyH_ready (rs := [3]) (by kernel_rfl) (by simp) ?_
  refine AllReadyH.cons rfl (fun KK hK => ?_) AllReadyH.nil
  go_simp
  (go_at_call 12; refine (path_any LP LP 128 OLD NEW 5 _).mono ?_; rintro e w3 ⟨A, c, pe, l, rfl, hs, hrd, _, _, hb⟩; obtain ⟨rfl, rfl⟩ := aw_path hs; have RD := hid hrd; clear hs hrd; have D3 := hid (DY2.out.below hb DY2.out.lt); have B3 := hid (BY2.out.trans (hb.mono BY2.out.size)); have E3 := hid (EY2.out.trans (hb.mono EY2.out.size)); clear hb hS)
  refine hK.out _ _ D3.out (fun hS => ?_)
  clear hK KK
  try simp only [Act.put, List.setIfInBounds_toArray, List.set_cons_zero, List.set_cons_succ]
  refine take_at (i := 4) (v := ?_) rfl rfl (by kernel_rfl) (by kernel_rfl) (by kernel_rfl) (fun _ _ _ h => h) (Or.inl ⟨by rfl, ?_⟩) hS ?_
  rotate_left
  · intro w hSw; (try dsimp only at hSw); go_simp; try with_reducible rfl
  try simp only [List.setIfInBounds_toArray, List.set_cons_zero, List.set_cons_succ]
  refine take_at (i := 5) (v := ?_) rfl rfl (by kernel_rfl) (by kernel_rfl) (by kernel_rfl) (fun _ _ _ h => h) (Or.inl ⟨by rfl, ?_⟩) hS ?_
  rotate_left
  · intro w hSw; (try dsimp only at hSw); go_simp; try with_reducible rfl
  try simp only [List.setIfInBounds_toArray, List.set_cons_zero, List.set_cons_succ]
  refine take_at (i := 6) (v := ?_) rfl rfl (by kernel_rfl) (by kernel_rfl) (by kernel_rfl) (fun _ _ _ h => h) (Or.inl ⟨by rfl, ?_⟩) hS ?_
  rotate_left
  · intro w hSw; (try dsimp only at hSw); go_simp; try with_reducible rfl
  try simp only [List.setIfInBounds_toArray, List.set_cons_zero, List.set_cons_succ]
  refine take_at (i := 7) (v := ?_) rfl rfl (by kernel_rfl) (by kernel_rfl) (by kernel_rfl) (fun _ _ _ h => h) (Or.inl ⟨by rfl, ?_⟩) hS ?_
  rotate_left
  · intro w hSw; (try dsimp only at hSw); go_simp; try with_reducible rfl
  try simp only [List.setIfInBounds_toArray, List.set_cons_zero, List.set_cons_succ]
  refine take_at (i := 8) (v := ?_) rfl rfl (by kernel_rfl) (by kernel_rfl) (by kernel_rfl) (fun _ _ _ h => h) (Or.inl ⟨by rfl, ?_⟩) hS ?_
  rotate_left
  · intro w hSw; (try dsimp only at hSw); go_simp; try with_reducible rfl
  try simp only [List.setIfInBounds_toArray, List.set_cons_zero, List.set_cons_succ]
  refine wpAnyH_done (by kernel_rfl) ?_ _
  simp only [Sure, Exit.then]
  clear hS
  have E3 := hid (Below.refl w3.heap.size w3)
  go_upto_region 3 with fail
  refine wp_region_hand (fun w' => Blk w' w1.heap.size 29 #[.int .i64 0, .int .i64 256, .int .i64 8, .int .i64 0, .int .i64 1000, .int .i64 10, .int .i64 256, .int .i64 1, .int .i64 0, .int .i64 0, .int .i64 256, .int .i64 8, .int .i64 0, .int .i64 1000, .int .i64 10, .int .i64 256, .int .i64 1, .int .i64 0, .int .i64 128]) (by kernel_rfl) ?_
  simp only [List.length_cons, List.length_nil, Nat.zero_add, Nat.reduceAdd]
  have hS : Blk w3.drew w1.heap.size 29 #[.int .i64 0, .int .i64 256, .int .i64 8, .int .i64 0, .int .i64 1000, .int .i64 10, .int .i64 256, .int .i64 1, .int .i64 0, .int .i64 0, .int .i64 256, .int .i64 8, .int .i64 0, .int .i64 1000, .int .i64 10, .int .i64 256, .int .i64 1, .int .i64 0, .int .i64 128] := D3.out
  refine take_at (i := 0) (v := .agg #[.int .i64 0, .int .i64 256, .int .i64 8, .int .i64 0, .int .i64 1000, .int .i64 10, .int .i64 256, .int .i64 1, .int .i64 0, .int .i64 0, .int .i64 256, .int .i64 8, .int .i64 0, .int .i64 1000, .int .i64 10, .int .i64 256, .int .i64 1, .int .i64 0, .int .i64 128]) rfl rfl (by kernel_rfl) (by kernel_rfl) (by kernel_rfl) (fun _ _ _ h => h) (Or.inl ⟨by rfl, fun wi hSw => exec_loads (p := .pointer (some ⟨w1.heap.size, 0, none⟩)) rfl rfl (load_blk hSw Try.underlying29 rfl (by kernel_rfl))⟩) hS ?_
  try simp only [List.setIfInBounds_toArray, List.set_cons_zero, List.set_cons_succ]
  refine take_at (i := 3) (v := ?_) rfl rfl (by kernel_rfl) (by kernel_rfl) (by kernel_rfl) (fun _ _ _ h => h) (Or.inl ⟨by rfl, ?_⟩) hS ?_
  rotate_left
  · intro w hSw; (try dsimp only at hSw); go_simp; try with_reducible rfl
  try simp only [List.setIfInBounds_toArray, List.set_cons_zero, List.set_cons_succ]
  refine wpAnyH_ready (rs := [1]) (by kernel_rfl) (by simp) ?_
  refine AllReadyH.cons rfl (fun K hK => ?_) AllReadyH.nil
  go_simp
  (go_at_call 27; refine (old_any _).mono ?_; rintro e x3 ⟨rfl, hb⟩; have HB := hid (show Below w3.heap.size w3 x3 from by first | exact hb | exact (Below.drew (Below.refl _ _)).trans hb); have DX3 := hid (D3.out.below HB.out D3.out.lt); have BX3 := hid (B3.out.trans (HB.out.mono B3.out.size)); have EX3 := hid (E3.out.trans (HB.out.mono E3.out.size)); clear hb HB hS)
  refine hK.out _ _ DX3.out (fun hS => ?_)
  clear hK K
  try simp only [Act.put, List.setIfInBounds_toArray, List.set_cons_zero, List.set_cons_succ]
  refine wpAnyH_ready (rs := [2]) (by kernel_rfl) (by simp) ?_
  refine AllReadyH.cons rfl (fun K hK => ?_) AllReadyH.nil
  go_simp
  (go_at_call 28; refine (fresh_any _).mono ?_; rintro e y3 ⟨rfl, hb⟩; have DY3 := hid (DX3.out.below hb DX3.out.lt); have BY3 := hid (BX3.out.trans (hb.mono BX3.out.size)); have EY3 := hid (EX3.out.trans (hb.mono EX3.out.size)); clear hb hS)
  refine hK.out _ _ DY3.out (fun hS => ?_)
  clear hK K
  try simp only [Act.put, List.setIfInBounds_toArray, List.set_cons_zero, List.set_cons_succ]
  refine wpAnyH_ready (rs := [4]) (by kernel_rfl) (by simp) ?_
  refine AllReadyH.cons rfl (fun KK hK => ?_) AllReadyH.nil
  go_simp
  (go_at_call 17; refine (steps_any LP LP 128 OLD NEW 1 10 5 _).mono ?_; rintro e w4 ⟨v, er, rfl, hs, _, hb⟩; obtain ⟨rfl, rfl⟩ := aw_st (N := 10) rfl (by decide) hs (by decide) (aw_vals.2.2.1) aw_vals.2.2.2.1; clear hs; have D4 := hid (DY3.out.below hb DY3.out.lt); have B4 := hid (BY3.out.trans (hb.mono BY3.out.size)); have E4 := hid (EY3.out.trans (hb.mono EY3.out.size)); clear hb hS)
  refine hK.out _ _ D4.out (fun hS => ?_)
  clear hK KK
  try simp only [Act.put, List.setIfInBounds_toArray, List.set_cons_zero, List.set_cons_succ]
  refine take_at (i := 5) (v := ?_) rfl rfl (by kernel_rfl) (by kernel_rfl) (by kernel_rfl) (fun _ _ _ h => h) (Or.inl ⟨by rfl, ?_⟩) hS ?_
  rotate_left
  · intro w hSw; (try dsimp only at hSw); go_simp; try with_reducible rfl
  try simp only [List.setIfInBounds_toArray, List.set_cons_zero, List.set_cons_succ]
  refine take_at (i := 6) (v := ?_) rfl rfl (by kernel_rfl) (by kernel_rfl) (by kernel_rfl) (fun _ _ _ h => h) (Or.inl ⟨by rfl, ?_⟩) hS ?_
  rotate_left
  · intro w hSw; (try dsimp only at hSw); go_simp; try with_reducible rfl
  try simp only [List.setIfInBounds_toArray, List.set_cons_zero, List.set_cons_succ]
  refine take_at (i := 7) (v := ?_) rfl rfl (by kernel_rfl) (by kernel_rfl) (by kernel_rfl) (fun _ _ _ h => h) (Or.inl ⟨by rfl, ?_⟩) hS ?_
  rotate_left
  · intro w hSw; (try dsimp only at hSw); go_simp; try with_reducible rfl
  try simp only [List.setIfInBounds_toArray, List.set_cons_zero, List.set_cons_succ]
  refine take_at (i := 8) (v := ?_) rfl rfl (by kernel_rfl) (by kernel_rfl) (by kernel_rfl) (fun _ _ _ h => h) (Or.inl ⟨by rfl, ?_⟩) hS ?_
  rotate_left
  · intro w hSw; (try dsimp only at hSw); go_simp; try with_reducible rfl
  try simp only [List.setIfInBounds_toArray, List.set_cons_zero, List.set_cons_succ]
  refine take_at (i := 9) (v := ?_) rfl rfl (by kernel_rfl) (by kernel_rfl) (by kernel_rfl) (fun _ _ _ h => h) (Or.inl ⟨by rfl, ?_⟩) hS ?_
  rotate_left
  · intro w hSw; (try dsimp only at hSw); go_simp; try with_reducible rfl
  try simp only [List.setIfInBounds_toArray, List.set_cons_zero, List.set_cons_succ]
  refine wpAnyH_done (by kernel_rfl) ?_ _
  simp only [Sure, Exit.then]
  clear hS
  go_upto_region 4 with fail
  refine wp_region_hand (fun w' => Blk w' w1.heap.size 29 #[.int .i64 0, .int .i64 256, .int .i64 8, .int .i64 0, .int .i64 1000, .int .i64 10, .int .i64 256, .int .i64 1, .int .i64 0, .int .i64 0, .int .i64 256, .int .i64 8, .int .i64 0, .int .i64 1000, .int .i64 10, .int .i64 256, .int .i64 1, .int .i64 0, .int .i64 128]) (by kernel_rfl) ?_
  simp only [List.length_cons, List.length_nil, Nat.zero_add, Nat.reduceAdd]
  have hS : Blk w4.drew w1.heap.size 29 #[.int .i64 0, .int .i64 256, .int .i64 8, .int .i64 0, .int .i64 1000, .int .i64 10, .int .i64 256, .int .i64 1, .int .i64 0, .int .i64 0, .int .i64 256, .int .i64 8, .int .i64 0, .int .i64 1000, .int .i64 10, .int .i64 256, .int .i64 1, .int .i64 0, .int .i64 128] := D4.out
  refine take_at (i := 0) (v := .agg #[.int .i64 0, .int .i64 256, .int .i64 8, .int .i64 0, .int .i64 1000, .int .i64 10, .int .i64 256, .int .i64 1, .int .i64 0, .int .i64 0, .int .i64 256, .int .i64 8, .int .i64 0, .int .i64 1000, .int .i64 10, .int .i64 256, .int .i64 1, .int .i64 0, .int .i64 128]) rfl rfl (by kernel_rfl) (by kernel_rfl) (by kernel_rfl) (fun _ _ _ h => h) (Or.inl ⟨by rfl, fun wi hSw => exec_loads (p := .pointer (some ⟨w1.heap.size, 0, none⟩)) rfl rfl (load_blk hSw Try.underlying29 rfl (by kernel_rfl))⟩) hS ?_
  try simp only [List.setIfInBounds_toArray, List.set_cons_zero, List.set_cons_succ]
  refine take_at (i := 3) (v := ?_) rfl rfl (by kernel_rfl) (by kernel_rfl) (by kernel_rfl) (fun _ _ _ h => h) (Or.inl ⟨by rfl, ?_⟩) hS ?_
  rotate_left
  · intro w hSw; (try dsimp only at hSw); go_simp; try with_reducible rfl
  try simp only [List.setIfInBounds_toArray, List.set_cons_zero, List.set_cons_succ]
  refine wpAnyH_ready (rs := [1]) (by kernel_rfl) (by simp) ?_
  refine AllReadyH.cons rfl (fun K hK => ?_) AllReadyH.nil
  go_simp
  (go_at_call 27; refine (old_any _).mono ?_; rintro e x4 ⟨rfl, hb⟩; have HB := hid (show Below w4.heap.size w4 x4 from by first | exact hb | exact (Below.drew (Below.refl _ _)).trans hb); have DX4 := hid (D4.out.below HB.out D4.out.lt); have BX4 := hid (B4.out.trans (HB.out.mono B4.out.size)); have EX4 := hid (E4.out.trans (HB.out.mono E4.out.size)); clear hb HB hS)
  refine hK.out _ _ DX4.out (fun hS => ?_)
  clear hK K
  try simp only [Act.put, List.setIfInBounds_toArray, List.set_cons_zero, List.set_cons_succ]
  refine wpAnyH_ready (rs := [2]) (by kernel_rfl) (by simp) ?_
  refine AllReadyH.cons rfl (fun K hK => ?_) AllReadyH.nil
  go_simp
  (go_at_call 28; refine (fresh_any _).mono ?_; rintro e y4 ⟨rfl, hb⟩; have DY4 := hid (DX4.out.below hb DX4.out.lt); have BY4 := hid (BX4.out.trans (hb.mono BX4.out.size)); have EY4 := hid (EX4.out.trans (hb.mono EX4.out.size)); clear hb hS)
  refine hK.out _ _ DY4.out (fun hS => ?_)
  clear hK K
  try simp only [Act.put, List.setIfInBounds_toArray, List.set_cons_zero, List.set_cons_succ]
  refine wpAnyH_ready (rs := [4]) (by kernel_rfl) (by simp) ?_
  refine AllReadyH.cons rfl (fun KK hK => ?_) AllReadyH.nil
  go_simp
  (go_at_call 17; refine (steps_any LP LP 128 OLD NEW 3 10 5 _).mono ?_; rintro e w5 ⟨v, er, rfl, hs, _, hb⟩; obtain ⟨rfl, rfl⟩ := aw_st (N := 10) rfl (by decide) hs (by decide) (aw_vals.2.2.1) aw_vals.2.2.2.2.1; clear hs; have D5 := hid (DY4.out.below hb DY4.out.lt); have B5 := hid (BY4.out.trans (hb.mono BY4.out.size)); have E5 := hid (EY4.out.trans (hb.mono EY4.out.size)); clear hb hS)
  refine hK.out _ _ D5.out (fun hS => ?_)
  clear hK KK
  try simp only [Act.put, List.setIfInBounds_toArray, List.set_cons_zero, List.set_cons_succ]
  refine take_at (i := 5) (v := ?_) rfl rfl (by kernel_rfl) (by kernel_rfl) (by kernel_rfl) (fun _ _ _ h => h) (Or.inl ⟨by rfl, ?_⟩) hS ?_
  rotate_left
  · intro w hSw; (try dsimp only at hSw); go_simp; try with_reducible rfl
  try simp only [List.setIfInBounds_toArray, List.set_cons_zero, List.set_cons_succ]
  refine take_at (i := 6) (v := ?_) rfl rfl (by kernel_rfl) (by kernel_rfl) (by kernel_rfl) (fun _ _ _ h => h) (Or.inl ⟨by rfl, ?_⟩) hS ?_
  rotate_left
  · intro w hSw; (try dsimp only at hSw); go_simp; try with_reducible rfl
  try simp only [List.setIfInBounds_toArray, List.set_cons_zero, List.set_cons_succ]
  refine take_at (i := 7) (v := ?_) rfl rfl (by kernel_rfl) (by kernel_rfl) (by kernel_rfl) (fun _ _ _ h => h) (Or.inl ⟨by rfl, ?_⟩) hS ?_
  rotate_left
  · intro w hSw; (try dsimp only at hSw); go_simp; try with_reducible rfl
  try simp only [List.setIfInBounds_toArray, List.set_cons_zero, List.set_cons_succ]
  refine take_at (i := 8) (v := ?_) rfl rfl (by kernel_rfl) (by kernel_rfl) (by kernel_rfl) (fun _ _ _ h => h) (Or.inl ⟨by rfl, ?_⟩) hS ?_
  rotate_left
  · intro w hSw; (try dsimp only at hSw); go_simp; try with_reducible rfl
  try simp only [List.setIfInBounds_toArray, List.set_cons_zero, List.set_cons_succ]
  refine take_at (i := 9) (v := ?_) rfl rfl (by kernel_rfl) (by kernel_rfl) (by kernel_rfl) (fun _ _ _ h => h) (Or.inl ⟨by rfl, ?_⟩) hS ?_
  rotate_left
  · intro w hSw; (try dsimp only at hSw); go_simp; try with_reducible rfl
  try simp only [List.setIfInBounds_toArray, List.set_cons_zero, List.set_cons_succ]
  refine wpAnyH_done (by kernel_rfl) ?_ _
  simp only [Sure, Exit.then]
  clear hS
  go_upto_region 5 with fail
  refine wp_region_hand (fun w' => Blk w' w1.heap.size 29 #[.int .i64 0, .int .i64 256, .int .i64 8, .int .i64 0, .int .i64 1000, .int .i64 10, .int .i64 256, .int .i64 1, .int .i64 0, .int .i64 0, .int .i64 256, .int .i64 8, .int .i64 0, .int .i64 1000, .int .i64 10, .int .i64 256, .int .i64 1, .int .i64 0, .int .i64 128]) (by kernel_rfl) ?_
  simp only [List.length_cons, List.length_nil, Nat.zero_add, Nat.reduceAdd]
  have hS : Blk w5.drew w1.heap.size 29 #[.int .i64 0, .int .i64 256, .int .i64 8, .int .i64 0, .int .i64 1000, .int .i64 10, .int .i64 256, .int .i64 1, .int .i64 0, .int .i64 0, .int .i64 256, .int .i64 8, .int .i64 0, .int .i64 1000, .int .i64 10, .int .i64 256, .int .i64 1, .int .i64 0, .int .i64 128] := D5.out
  refine take_at (i := 0) (v := .agg #[.int .i64 0, .int .i64 256, .int .i64 8, .int .i64 0, .int .i64 1000, .int .i64 10, .int .i64 256, .int .i64 1, .int .i64 0, .int .i64 0, .int .i64 256, .int .i64 8, .int .i64 0, .int .i64 1000, .int .i64 10, .int .i64 256, .int .i64 1, .int .i64 0, .int .i64 128]) rfl rfl (by kernel_rfl) (by kernel_rfl) (by kernel_rfl) (fun _ _ _ h => h) (Or.inl ⟨by rfl, fun wi hSw => exec_loads (p := .pointer (some ⟨w1.heap.size, 0, none⟩)) rfl rfl (load_blk hSw Try.underlying29 rfl (by kernel_rfl))⟩) hS ?_
  try simp only [List.setIfInBounds_toArray, List.set_cons_zero, List.set_cons_succ]
  refine take_at (i := 3) (v := ?_) rfl rfl (by kernel_rfl) (by kernel_rfl) (by kernel_rfl) (fun _ _ _ h => h) (Or.inl ⟨by rfl, ?_⟩) hS ?_
  rotate_left
  · intro w hSw; (try dsimp only at hSw); go_simp; try with_reducible rfl
  try simp only [List.setIfInBounds_toArray, List.set_cons_zero, List.set_cons_succ]
  refine wpAnyH_ready (rs := [1]) (by kernel_rfl) (by simp) ?_
  refine AllReadyH.cons rfl (fun K hK => ?_) AllReadyH.nil
  go_simp
  (go_at_call 27; refine (old_any _).mono ?_; rintro e x5 ⟨rfl, hb⟩; have HB := hid (show Below w5.heap.size w5 x5 from by first | exact hb | exact (Below.drew (Below.refl _ _)).trans hb); have DX5 := hid (D5.out.below HB.out D5.out.lt); have BX5 := hid (B5.out.trans (HB.out.mono B5.out.size)); have EX5 := hid (E5.out.trans (HB.out.mono E5.out.size)); clear hb HB hS)
  refine hK.out _ _ DX5.out (fun hS => ?_)
  clear hK K
  try simp only [Act.put, List.setIfInBounds_toArray, List.set_cons_zero, List.set_cons_succ]
  refine wpAnyH_ready (rs := [2]) (by kernel_rfl) (by simp) ?_
  refine AllReadyH.cons rfl (fun K hK => ?_) AllReadyH.nil
  go_simp
  (go_at_call 28; refine (fresh_any _).mono ?_; rintro e y5 ⟨rfl, hb⟩; have DY5 := hid (DX5.out.below hb DX5.out.lt); have BY5 := hid (BX5.out.trans (hb.mono BX5.out.size)); have EY5 := hid (EX5.out.trans (hb.mono EX5.out.size)); clear hb hS)
  refine hK.out _ _ DY5.out (fun hS => ?_)
  clear hK K
  try simp only [Act.put, List.setIfInBounds_toArray, List.set_cons_zero, List.set_cons_succ]
  refine wpAnyH_ready (rs := [4]) (by kernel_rfl) (by simp) ?_
  refine AllReadyH.cons rfl (fun KK hK => ?_) AllReadyH.nil
  go_simp
  (go_at_call 17; refine (steps_any LP LP 128 OLD NEW 3 3 5 _).mono ?_; rintro e w6 ⟨v, er, rfl, hs, _, hb⟩; obtain ⟨rfl, rfl⟩ := aw_st (N := 3) rfl (by decide) hs (by decide) (aw_vals.2.2.2.2.2.1) aw_vals.2.2.2.2.2.2; clear hs; have D6 := hid (DY5.out.below hb DY5.out.lt); have B6 := hid (BY5.out.trans (hb.mono BY5.out.size)); have E6 := hid (EY5.out.trans (hb.mono EY5.out.size)); clear hb hS)
  refine hK.out _ _ D6.out (fun hS => ?_)
  clear hK KK
  try simp only [Act.put, List.setIfInBounds_toArray, List.set_cons_zero, List.set_cons_succ]
  refine take_at (i := 5) (v := ?_) rfl rfl (by kernel_rfl) (by kernel_rfl) (by kernel_rfl) (fun _ _ _ h => h) (Or.inl ⟨by rfl, ?_⟩) hS ?_
  rotate_left
  · intro w hSw; (try dsimp only at hSw); go_simp; try with_reducible rfl
  try simp only [List.setIfInBounds_toArray, List.set_cons_zero, List.set_cons_succ]
  refine take_at (i := 6) (v := ?_) rfl rfl (by kernel_rfl) (by kernel_rfl) (by kernel_rfl) (fun _ _ _ h => h) (Or.inl ⟨by rfl, ?_⟩) hS ?_
  rotate_left
  · intro w hSw; (try dsimp only at hSw); go_simp; try with_reducible rfl
  try simp only [List.setIfInBounds_toArray, List.set_cons_zero, List.set_cons_succ]
  refine take_at (i := 7) (v := ?_) rfl rfl (by kernel_rfl) (by kernel_rfl) (by kernel_rfl) (fun _ _ _ h => h) (Or.inl ⟨by rfl, ?_⟩) hS ?_
  rotate_left
  · intro w hSw; (try dsimp only at hSw); go_simp; try with_reducible rfl
  try simp only [List.setIfInBounds_toArray, List.set_cons_zero, List.set_cons_succ]
  refine take_at (i := 8) (v := ?_) rfl rfl (by kernel_rfl) (by kernel_rfl) (by kernel_rfl) (fun _ _ _ h => h) (Or.inl ⟨by rfl, ?_⟩) hS ?_
  rotate_left
  · intro w hSw; (try dsimp only at hSw); go_simp; try with_reducible rfl
  try simp only [List.setIfInBounds_toArray, List.set_cons_zero, List.set_cons_succ]
  refine take_at (i := 9) (v := ?_) rfl rfl (by kernel_rfl) (by kernel_rfl) (by kernel_rfl) (fun _ _ _ h => h) (Or.inl ⟨by rfl, ?_⟩) hS ?_
  rotate_left
  · intro w hSw; (try dsimp only at hSw); go_simp; try with_reducible rfl
  try simp only [List.setIfInBounds_toArray, List.set_cons_zero, List.set_cons_succ]
  refine wpAnyH_done (by kernel_rfl) ?_ _
  simp only [Sure, Exit.then]
  clear hS
  go_upto_region 6 with fail
  refine wp_region_hand (fun w' => Blk w' w1.heap.size 29 #[.int .i64 0, .int .i64 256, .int .i64 8, .int .i64 0, .int .i64 1000, .int .i64 10, .int .i64 256, .int .i64 1, .int .i64 0, .int .i64 0, .int .i64 256, .int .i64 8, .int .i64 0, .int .i64 1000, .int .i64 10, .int .i64 256, .int .i64 1, .int .i64 0, .int .i64 128]) (by kernel_rfl) ?_
  simp only [List.length_cons, List.length_nil, Nat.zero_add, Nat.reduceAdd]
  have hS : Blk w6.drew w1.heap.size 29 #[.int .i64 0, .int .i64 256, .int .i64 8, .int .i64 0, .int .i64 1000, .int .i64 10, .int .i64 256, .int .i64 1, .int .i64 0, .int .i64 0, .int .i64 256, .int .i64 8, .int .i64 0, .int .i64 1000, .int .i64 10, .int .i64 256, .int .i64 1, .int .i64 0, .int .i64 128] := D6.out
  refine take_at (i := 0) (v := .agg #[.int .i64 0, .int .i64 256, .int .i64 8, .int .i64 0, .int .i64 1000, .int .i64 10, .int .i64 256, .int .i64 1, .int .i64 0, .int .i64 0, .int .i64 256, .int .i64 8, .int .i64 0, .int .i64 1000, .int .i64 10, .int .i64 256, .int .i64 1, .int .i64 0, .int .i64 128]) rfl rfl (by kernel_rfl) (by kernel_rfl) (by kernel_rfl) (fun _ _ _ h => h) (Or.inl ⟨by rfl, fun wi hSw => exec_loads (p := .pointer (some ⟨w1.heap.size, 0, none⟩)) rfl rfl (load_blk hSw Try.underlying29 rfl (by kernel_rfl))⟩) hS ?_
  try simp only [List.setIfInBounds_toArray, List.set_cons_zero, List.set_cons_succ]
  refine take_at (i := 3) (v := ?_) rfl rfl (by kernel_rfl) (by kernel_rfl) (by kernel_rfl) (fun _ _ _ h => h) (Or.inl ⟨by rfl, ?_⟩) hS ?_
  rotate_left
  · intro w hSw; (try dsimp only at hSw); go_simp; try with_reducible rfl
  try simp only [List.setIfInBounds_toArray, List.set_cons_zero, List.set_cons_succ]
  refine wpAnyH_ready (rs := [1]) (by kernel_rfl) (by simp) ?_
  refine AllReadyH.cons rfl (fun K hK => ?_) AllReadyH.nil
  go_simp
  (go_at_call 27; refine (old_any _).mono ?_; rintro e x6 ⟨rfl, hb⟩; have HB := hid (show Below w6.heap.size w6 x6 from by first | exact hb | exact (Below.drew (Below.refl _ _)).trans hb); have DX6 := hid (D6.out.below HB.out D6.out.lt); have BX6 := hid (B6.out.trans (HB.out.mono B6.out.size)); have EX6 := hid (E6.out.trans (HB.out.mono E6.out.size)); clear hb HB hS)
  refine hK.out _ _ DX6.out (fun hS => ?_)
  clear hK K
  try simp only [Act.put, List.setIfInBounds_toArray, List.set_cons_zero, List.set_cons_succ]
  refine wpAnyH_ready (rs := [2]) (by kernel_rfl) (by simp) ?_
  refine AllReadyH.cons rfl (fun K hK => ?_) AllReadyH.nil
  go_simp
  (go_at_call 28; refine (fresh_any _).mono ?_; rintro e y6 ⟨rfl, hb⟩; have DY6 := hid (DX6.out.below hb DX6.out.lt); have BY6 := hid (BX6.out.trans (hb.mono BX6.out.size)); have EY6 := hid (EX6.out.trans (hb.mono EX6.out.size)); clear hb hS)
  refine hK.out _ _ DY6.out (fun hS => ?_)
  clear hK K
  try simp only [Act.put, List.setIfInBounds_toArray, List.set_cons_zero, List.set_cons_succ]
  refine wpAnyH_ready (rs := [4]) (by kernel_rfl) (by simp) ?_
  refine AllReadyH.cons rfl (fun KK hK => ?_) AllReadyH.nil
  go_simp
  (go_at_call 21; refine (paper_any LP LP 128 OLD NEW 3 10 5 _ 20000 5000).mono ?_; rintro e w7 ⟨v, er, rfl, hs, _, hb⟩; obtain ⟨rfl, rfl⟩ := aw_st (N := 10) rfl (by decide) hs (by decide) (aw_vals.2.2.1) aw_vals.2.2.2.2.1; clear hs; have D7 := hid (DY6.out.below hb DY6.out.lt); have B7 := hid (BY6.out.trans (hb.mono BY6.out.size)); have E7 := hid (EY6.out.trans (hb.mono EY6.out.size)); clear hb hS)
  refine hK.out _ _ D7.out (fun hS => ?_)
  clear hK KK
  try simp only [Act.put, List.setIfInBounds_toArray, List.set_cons_zero, List.set_cons_succ]
  refine take_at (i := 5) (v := ?_) rfl rfl (by kernel_rfl) (by kernel_rfl) (by kernel_rfl) (fun _ _ _ h => h) (Or.inl ⟨by rfl, ?_⟩) hS ?_
  rotate_left
  · intro w hSw; (try dsimp only at hSw); go_simp; try with_reducible rfl
  try simp only [List.setIfInBounds_toArray, List.set_cons_zero, List.set_cons_succ]
  refine take_at (i := 6) (v := ?_) rfl rfl (by kernel_rfl) (by kernel_rfl) (by kernel_rfl) (fun _ _ _ h => h) (Or.inl ⟨by rfl, ?_⟩) hS ?_
  rotate_left
  · intro w hSw; (try dsimp only at hSw); go_simp; try with_reducible rfl
  try simp only [List.setIfInBounds_toArray, List.set_cons_zero, List.set_cons_succ]
  refine take_at (i := 7) (v := ?_) rfl rfl (by kernel_rfl) (by kernel_rfl) (by kernel_rfl) (fun _ _ _ h => h) (Or.inl ⟨by rfl, ?_⟩) hS ?_
  rotate_left
  · intro w hSw; (try dsimp only at hSw); go_simp; try with_reducible rfl
  try simp only [List.setIfInBounds_toArray, List.set_cons_zero, List.set_cons_succ]
  refine take_at (i := 8) (v := ?_) rfl rfl (by kernel_rfl) (by kernel_rfl) (by kernel_rfl) (fun _ _ _ h => h) (Or.inl ⟨by rfl, ?_⟩) hS ?_
  rotate_left
  · intro w hSw; (try dsimp only at hSw); go_simp; try with_reducible rfl
  try simp only [List.setIfInBounds_toArray, List.set_cons_zero, List.set_cons_succ]
  refine take_at (i := 9) (v := ?_) rfl rfl (by kernel_rfl) (by kernel_rfl) (by kernel_rfl) (fun _ _ _ h => h) (Or.inl ⟨by rfl, ?_⟩) hS ?_
  rotate_left
  · intro w hSw; (try dsimp only at hSw); go_simp; try with_reducible rfl
  try simp only [List.setIfInBounds_toArray, List.set_cons_zero, List.set_cons_succ]
  refine take_at (i := 10) (v := ?_) rfl rfl (by kernel_rfl) (by kernel_rfl) (by kernel_rfl) (fun _ _ _ h => h) (Or.inl ⟨by rfl, ?_⟩) hS ?_
  rotate_left
  · intro w hSw; (try dsimp only at hSw); go_simp; try with_reducible rfl
  try simp only [List.setIfInBounds_toArray, List.set_cons_zero, List.set_cons_succ]
  refine take_at (i := 11) (v := ?_) rfl rfl (by kernel_rfl) (by kernel_rfl) (by kernel_rfl) (fun _ _ _ h => h) (Or.inl ⟨by rfl, ?_⟩) hS ?_
  rotate_left
  · intro w hSw; (try dsimp only at hSw); go_simp; try with_reducible rfl
  try simp only [List.setIfInBounds_toArray, List.set_cons_zero, List.set_cons_succ]
  refine wpAnyH_done (by kernel_rfl) ?_ _
  simp only [Sure, Exit.then]
  clear hS
  simp only [show ((2 : Int) = 0) = False from by simp, show ((4 : Int) = 0) = False from by simp, if_false, if_true]
  rw [aw_pa.1, aw_pa.2.1, aw_pa.2.2]
  go_wp2_with fail
  have L7 := hid (Rds.newAt w7 w7.heap.size #[.int .i64 510, .int .i64 72, .int .i64 520, .int .i64 85, .int .i64 525, .int .i64 83, .int .i64 525, .int .i64 80, .int .i64 525, .int .i64 80] (ints W5.flatten) 60 5 2 rfl rfl rfl)
  have X7 := hid (E7.out.alloc E7.out.size (.cells #[.int .i64 510, .int .i64 72, .int .i64 520, .int .i64 85, .int .i64 525, .int .i64 83, .int .i64 525, .int .i64 80, .int .i64 525, .int .i64 80] 60))
  have Y7 := hid (B7.out.alloc B7.out.size (.cells #[.int .i64 510, .int .i64 72, .int .i64 520, .int .i64 85, .int .i64 525, .int .i64 83, .int .i64 525, .int .i64 80, .int .i64 525, .int .i64 80] 60))
  refine (same2_any A (some ⟨w7.heap.size, 0, none⟩) c 5 W5.length 5 W5 W5 _ (RD.out.below X7.out) L7.out (by decide) (by decide) rfl rfl (by decide)).mono ?_
  rintro e w8 ⟨rfl, hb⟩
  have B8 := hid (Y7.out.trans (hb.mono Y7.out.size))
  clear hb X7 L7 Y7
  rw [decide_eq_true (rfl : W5 = W5)]
  go_wp2
  go_ret
  exact ⟨rfl, B8.out⟩
end Go.Proofs.Ytddphdkhaaolmaa
