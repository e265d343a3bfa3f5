/- Chapter 28: what the laws share. -/
import Derived.Test.YtfdblofpfpmbhaaWeb7
namespace Go.Proofs.Ytfdblofpfpmbhaa
open Go.RowKit

theorem results_cell {P : Program} {fn : Func} {tmps : Array Value} {a b : Nat} {t e : TypeId} {cs : Array Value} {d : TypeDesc} {w : World} (hf : fn.results = #[.cell a t]) (ha : tmps.getD a undef = .pointer (some ⟨b, 0, none⟩)) (h : Blk w b e cs) (hu : P.underlying t = some d) (hd : d.isRow = true) (hi : (P.info? t).map (·.size) = some cs.size) : (results fn tmps).run P w = .ok (.agg cs) w := by
  have hl := run_loadVar_mid (P := P) w b 0 t cs.toList d (fun j v hv => by rw [Nat.zero_add, h.cell]; simpa using hv) hu hd (by simpa using hi)
  unfold results
  rw [hf]
  simp only [List.mapM_toArray, List.mapM_cons, List.mapM_nil, ha, asAddr, Sem.run_bind, Sem.run_pure]
  simp [hl]
/-- The loop of the examples. -/
def LP : CP := ⟨0, 256, 8, 0, 1000, 100, 256, 1, 0⟩
set_option linter.unusedSimpArgs false in
set_option maxRecDepth 100000 in
theorem loops_any (w : World) : Calls Try.prog 33 #[.int .i64 100] w fun e w' => e = .returned (.agg #[.int .i64 0, .int .i64 256, .int .i64 8, .int .i64 0, .int .i64 1000, .int .i64 100, .int .i64 256, .int .i64 1, .int .i64 0, .int .i64 0, .int .i64 256, .int .i64 8, .int .i64 0, .int .i64 1000, .int .i64 100, .int .i64 256, .int .i64 1, .int .i64 0, .int .i64 128]) ∧ Below w.heap.size w w' := by
  go_enter Try.func33, Try.ntmps33
  go_upto_region 2 with (refine wpList_store_blk2 (b := w.heap.size + 1) (t := 27) (e := 27) (cs0 := #[.int .i64 0, .int .i64 0, .int .i64 0, .int .i64 0, .int .i64 0, .int .i64 0, .int .i64 0, .int .i64 0, .int .i64 0]) (cs := #[.int .i64 0, .int .i64 256, .int .i64 8, .int .i64 0, .int .i64 1000, .int .i64 100, .int .i64 256, .int .i64 1, .int .i64 0]) rfl rfl rfl rfl (by kernel_rfl) rfl (by simp [Value.oneCell']) (Blk.at_new _ (by simp)) ?_)
  have C1 := hid (Blk.row (Blk.at_new (w.alloc (.cells #[.int .i64 0, .int .i64 0, .int .i64 0, .int .i64 0, .int .i64 0, .int .i64 0, .int .i64 0, .int .i64 0, .int .i64 0, .int .i64 0, .int .i64 0, .int .i64 0, .int .i64 0, .int .i64 0, .int .i64 0, .int .i64 0, .int .i64 0, .int .i64 0, .int .i64 0] 29)) (b := w.heap.size + 1) (t := 27) (cs := #[.int .i64 0, .int .i64 0, .int .i64 0, .int .i64 0, .int .i64 0, .int .i64 0, .int .i64 0, .int .i64 0, .int .i64 0]) (by simp)) #[.int .i64 0, .int .i64 256, .int .i64 8, .int .i64 0, .int .i64 1000, .int .i64 100, .int .i64 256, .int .i64 1, .int .i64 0])
  have W1 := hid (Blk.rowOther (g := w.heap.size + 1) (Blk.alloc (Blk.at_new w (b := w.heap.size) (t := 29) (cs := #[.int .i64 0, .int .i64 0, .int .i64 0, .int .i64 0, .int .i64 0, .int .i64 0, .int .i64 0, .int .i64 0, .int .i64 0, .int .i64 0, .int .i64 0, .int .i64 0, .int .i64 0, .int .i64 0, .int .i64 0, .int .i64 0, .int .i64 0, .int .i64 0, .int .i64 0]) rfl) (.cells #[.int .i64 0, .int .i64 0, .int .i64 0, .int .i64 0, .int .i64 0, .int .i64 0, .int .i64 0, .int .i64 0, .int .i64 0] 27)) (by omega) #[.int .i64 0, .int .i64 256, .int .i64 8, .int .i64 0, .int .i64 1000, .int .i64 100, .int .i64 256, .int .i64 1, .int .i64 0])
  have B1 := hid (Below.row (g := w.heap.size + 1) (Below.alloc (Below.alloc (Below.refl w.heap.size w) (Nat.le_refl _) (.cells #[.int .i64 0, .int .i64 0, .int .i64 0, .int .i64 0, .int .i64 0, .int .i64 0, .int .i64 0, .int .i64 0, .int .i64 0, .int .i64 0, .int .i64 0, .int .i64 0, .int .i64 0, .int .i64 0, .int .i64 0, .int .i64 0, .int .i64 0, .int .i64 0, .int .i64 0] 29)) (by simp) (.cells #[.int .i64 0, .int .i64 0, .int .i64 0, .int .i64 0, .int .i64 0, .int .i64 0, .int .i64 0, .int .i64 0, .int .i64 0] 27)) (by omega) #[.int .i64 0, .int .i64 256, .int .i64 8, .int .i64 0, .int .i64 1000, .int .i64 100, .int .i64 256, .int .i64 1, .int .i64 0])
  generalize (((w.alloc (.cells #[.int .i64 0, .int .i64 0, .int .i64 0, .int .i64 0, .int .i64 0, .int .i64 0, .int .i64 0, .int .i64 0, .int .i64 0, .int .i64 0, .int .i64 0, .int .i64 0, .int .i64 0, .int .i64 0, .int .i64 0, .int .i64 0, .int .i64 0, .int .i64 0, .int .i64 0] 29)).alloc (.cells #[.int .i64 0, .int .i64 0, .int .i64 0, .int .i64 0, .int .i64 0, .int .i64 0, .int .i64 0, .int .i64 0, .int .i64 0] 27)).setRow (w.heap.size + 1) #[.int .i64 0, .int .i64 256, .int .i64 8, .int .i64 0, .int .i64 1000, .int .i64 100, .int .i64 256, .int .i64 1, .int .i64 0]) = wa at C1 W1 B1 ⊢
  go_wp2_with (first
    | (refine wpList_load_blk2 (t := 27) rfl rfl rfl Try.underlying27 rfl (by kernel_rfl) C1.out ?_)
    | (refine wpList_store_blk2 (b := w.heap.size) (t := 29) (e := 29) (cs0 := #[.int .i64 0, .int .i64 0, .int .i64 0, .int .i64 0, .int .i64 0, .int .i64 0, .int .i64 0, .int .i64 0, .int .i64 0, .int .i64 0, .int .i64 0, .int .i64 0, .int .i64 0, .int .i64 0, .int .i64 0, .int .i64 0, .int .i64 0, .int .i64 0, .int .i64 0]) (cs := #[.int .i64 0, .int .i64 256, .int .i64 8, .int .i64 0, .int .i64 1000, .int .i64 100, .int .i64 256, .int .i64 1, .int .i64 0, .int .i64 0, .int .i64 256, .int .i64 8, .int .i64 0, .int .i64 1000, .int .i64 100, .int .i64 256, .int .i64 1, .int .i64 0, .int .i64 128]) rfl rfl rfl rfl (by kernel_rfl) rfl (by simp [Value.oneCell']) W1.out ?_))
  refine bodyPost_ret (v := .agg #[.int .i64 0, .int .i64 256, .int .i64 8, .int .i64 0, .int .i64 1000, .int .i64 100, .int .i64 256, .int .i64 1, .int .i64 0, .int .i64 0, .int .i64 256, .int .i64 8, .int .i64 0, .int .i64 1000, .int .i64 100, .int .i64 256, .int .i64 1, .int .i64 0, .int .i64 128]) (results_cell rfl rfl (Blk.row W1.out _) Try.underlying29 rfl (by kernel_rfl)) rfl ?_
  exact ⟨rfl, Below.row B1.out (Nat.le_refl _) _⟩
theorem lp_rest (n : Int) (h : 0 ≤ n ∧ n ≤ 1000) : LP.IsRest n n := by
  have ht : ∀ m : Int, tgt 256 m = m := fun m => by unfold tgt; omega
  refine ⟨h.1, h.2, fun m h1 h2 => ?_⟩
  unfold farI
  show max (tgt 256 n - n) (n - tgt 256 n) < max (tgt 256 m - n) (n - tgt 256 m) ∨ _
  rw [ht, ht]
  by_cases hm : m = n
  · subst hm
    refine .inr ⟨?_, Int.le_refl _⟩
    rfl
  · refine .inl ?_
    omega
theorem lp_chk : chkW LP LP 128 = 0 := by decide +kernel
theorem aw_rest (w : World) : Calls Try.prog 10 #[.agg #[.int .i64 0, .int .i64 256, .int .i64 8, .int .i64 0, .int .i64 1000, .int .i64 100, .int .i64 256, .int .i64 1, .int .i64 0, .int .i64 0, .int .i64 256, .int .i64 8, .int .i64 0, .int .i64 1000, .int .i64 100, .int .i64 256, .int .i64 1, .int .i64 0, .int .i64 128], .agg #[.int .i64 500, .int .i64 80]] w fun e w' => e = .returned (.tuple #[.agg #[.int .i64 500, .int .i64 80, .int .i64 500, .int .i64 80], .int .i64 0]) ∧ Below w.heap.size w w' := by
  refine (wrests_any LP LP 128 500 80 w).mono ?_
  rintro e w' ⟨oB, oM, vB, vM, er, rfl, hs, hb⟩
  have ht : ∀ m : Int, tgt 256 m = m := fun m => by unfold tgt; omega
  have hk : RestSpec LP LP 128 500 80 500 80 500 80 0 := ⟨fun h => absurd lp_chk h, fun _ h => absurd (by decide) h, fun h => absurd rfl h, fun _ _ => ⟨rfl, lp_rest 500 (by omega), lp_rest 80 (by omega), (ht 500).symm, (ht 80).symm⟩⟩
  obtain ⟨rfl, rfl, rfl, rfl, rfl⟩ := rest_same hs hk
  exact ⟨rfl, hb⟩
theorem aw_l : wlErr LP LP 128 0 1000 10 0 = 0 ∧ wl1 LP LP 128 0 1000 10 0 = -10 ∧ wl2 LP LP 128 0 1000 10 0 = 1010 ∧ wl3 LP LP 128 0 1000 10 0 = -505 ∧ wl4 LP LP 128 0 1000 10 0 = 1505 := by decide +kernel
theorem aw_lim (w : World) : Calls Try.prog 20 #[.agg #[.int .i64 0, .int .i64 256, .int .i64 8, .int .i64 0, .int .i64 1000, .int .i64 100, .int .i64 256, .int .i64 1, .int .i64 0, .int .i64 0, .int .i64 256, .int .i64 8, .int .i64 0, .int .i64 1000, .int .i64 100, .int .i64 256, .int .i64 1, .int .i64 0, .int .i64 128], .agg #[.int .i64 0, .int .i64 1000], .agg #[.int .i64 10, .int .i64 0]] w fun e w' => e = .returned (.tuple #[.agg #[.int .i64 (-10), .int .i64 1010], .agg #[.int .i64 (-505), .int .i64 1505], .int .i64 0]) ∧ Below w.heap.size w w' := by
  have h := wlimits_any LP LP 128 0 1000 10 0 w
  obtain ⟨e0, e1, e2, e3, e4⟩ := aw_l
  unfold WLPost at h
  rw [e0, e1, e2, e3, e4] at h
  exact h
theorem aw_run (d x y : Int) (a1 a2 : Option Addr) (c1 c2 : Nat) (w : World) (r1 : Rds Nn w 2 a1 1 (ints [[520, 80]].flatten)) (r2 : Rds Nn w 2 a2 1 (ints [[d, 0]].flatten)) (he : wErr LP LP 128 500 80 500 80 [[520, 80]] [[d, 0]] = 0) (hr : wRows LP LP 128 500 80 500 80 [[520, 80]] [[d, 0]] = [[x, y]]) : Calls Try.prog 16 #[.agg #[.int .i64 0, .int .i64 256, .int .i64 8, .int .i64 0, .int .i64 1000, .int .i64 100, .int .i64 256, .int .i64 1, .int .i64 0, .int .i64 0, .int .i64 256, .int .i64 8, .int .i64 0, .int .i64 1000, .int .i64 100, .int .i64 256, .int .i64 1, .int .i64 0, .int .i64 128], .agg #[.int .i64 500, .int .i64 80, .int .i64 500, .int .i64 80], .slice a1 1 c1, .slice a2 1 c2] w fun e w' => ∃ p o c, e = .returned (.tuple #[.slice (some ⟨p, o, none⟩) 1 c, .int .i64 0]) ∧ (∀ W, Below w'.heap.size w' W → W.cell? ⟨p, o, none⟩ = some (.int .i64 x) ∧ W.cell? ⟨p, o + 1, none⟩ = some (.int .i64 y)) ∧ Below w.heap.size w w' := by
  refine (wrun_any LP LP 128 500 80 500 80 a1 a2 c1 c2 1 1 [[520, 80]] [[d, 0]] w r1 r2 (by simp) (by simp) rfl rfl (by omega) (by omega)).mono ?_
  rintro e w' ⟨u, rfl, hu, hb⟩
  rw [he]
  rw [hr] at hu
  obtain ⟨A, c, rfl, _, _⟩ := own_form hu
  obtain ⟨p, o, s, v, rfl, _, hsv, hcell⟩ := cells_at (Rds.own hu (S := Nn) (fun _ _ => id)) (by simp) rfl (k := 0) (by simp)
  simp at hsv
  obtain ⟨rfl, rfl⟩ := hsv
  exact ⟨p, o, c, rfl, fun W hW => by simpa using hcell W hW, hb⟩
set_option linter.unusedSimpArgs false in
set_option maxRecDepth 100000 in
set_option maxHeartbeats 4000000 in
theorem one_any (d x y : Int) (w : World) (he : wErr LP LP 128 500 80 500 80 [[520, 80]] [[d, 0]] = 0) (hr : wRows LP LP 128 500 80 500 80 [[520, 80]] [[d, 0]] = [[x, y]]) : Calls Try.prog 34 #[.int .i64 d] w fun e w' => e = .returned (.agg #[.int .i64 x, .int .i64 y]) ∧ Below w.heap.size w w' := by
  have HE := hid he
  have HR := hid hr
  clear he hr
  go_enter Try.func34, Try.ntmps34
  go_wp2_with fail
  refine (loops_any _).mono ?_
  rintro e w1 ⟨rfl, hb⟩
  have R1 := hid (Blk.below (Blk.at_new w (b := w.heap.size) (t := 31) (cs := #[.int .i64 0, .int .i64 0]) rfl) hb (by simp))
  have B1 := hid (((Below.refl _ _).alloc (Nat.le_refl _) _).trans (hb.mono (by simp)))
  have l0 := R1.out.lt
  clear hb
  go_upto_region 2 with (refine wpList_store_blk2 (b := w1.heap.size) (t := 29) (e := 29) (cs0 := #[.int .i64 0, .int .i64 0, .int .i64 0, .int .i64 0, .int .i64 0, .int .i64 0, .int .i64 0, .int .i64 0, .int .i64 0, .int .i64 0, .int .i64 0, .int .i64 0, .int .i64 0, .int .i64 0, .int .i64 0, .int .i64 0, .int .i64 0, .int .i64 0, .int .i64 0]) (cs := #[.int .i64 0, .int .i64 256, .int .i64 8, .int .i64 0, .int .i64 1000, .int .i64 100, .int .i64 256, .int .i64 1, .int .i64 0, .int .i64 0, .int .i64 256, .int .i64 8, .int .i64 0, .int .i64 1000, .int .i64 100, .int .i64 256, .int .i64 1, .int .i64 0, .int .i64 128]) rfl rfl rfl rfl (by kernel_rfl) rfl (by simp [Value.oneCell']) (Blk.at_new w1 rfl) ?_)
  have WA := hid (Blk.row (Blk.at_new w1 (b := w1.heap.size) (t := 29) (cs := #[.int .i64 0, .int .i64 0, .int .i64 0, .int .i64 0, .int .i64 0, .int .i64 0, .int .i64 0, .int .i64 0, .int .i64 0, .int .i64 0, .int .i64 0, .int .i64 0, .int .i64 0, .int .i64 0, .int .i64 0, .int .i64 0, .int .i64 0, .int .i64 0, .int .i64 0]) rfl) #[.int .i64 0, .int .i64 256, .int .i64 8, .int .i64 0, .int .i64 1000, .int .i64 100, .int .i64 256, .int .i64 1, .int .i64 0, .int .i64 0, .int .i64 256, .int .i64 8, .int .i64 0, .int .i64 1000, .int .i64 100, .int .i64 256, .int .i64 1, .int .i64 0, .int .i64 128])
  have RA := hid (Blk.rowOther (g := w1.heap.size) (Blk.alloc R1.out (.cells #[.int .i64 0, .int .i64 0, .int .i64 0, .int .i64 0, .int .i64 0, .int .i64 0, .int .i64 0, .int .i64 0, .int .i64 0, .int .i64 0, .int .i64 0, .int .i64 0, .int .i64 0, .int .i64 0, .int .i64 0, .int .i64 0, .int .i64 0, .int .i64 0, .int .i64 0] 29)) (by omega) #[.int .i64 0, .int .i64 256, .int .i64 8, .int .i64 0, .int .i64 1000, .int .i64 100, .int .i64 256, .int .i64 1, .int .i64 0, .int .i64 0, .int .i64 256, .int .i64 8, .int .i64 0, .int .i64 1000, .int .i64 100, .int .i64 256, .int .i64 1, .int .i64 0, .int .i64 128])
  have BA := hid (Below.row (g := w1.heap.size) (Below.alloc B1.out B1.out.size (.cells #[.int .i64 0, .int .i64 0, .int .i64 0, .int .i64 0, .int .i64 0, .int .i64 0, .int .i64 0, .int .i64 0, .int .i64 0, .int .i64 0, .int .i64 0, .int .i64 0, .int .i64 0, .int .i64 0, .int .i64 0, .int .i64 0, .int .i64 0, .int .i64 0, .int .i64 0] 29)) B1.out.size #[.int .i64 0, .int .i64 256, .int .i64 8, .int .i64 0, .int .i64 1000, .int .i64 100, .int .i64 256, .int .i64 1, .int .i64 0, .int .i64 0, .int .i64 256, .int .i64 8, .int .i64 0, .int .i64 1000, .int .i64 100, .int .i64 256, .int .i64 1, .int .i64 0, .int .i64 128])
  generalize ((w1.alloc (.cells #[.int .i64 0, .int .i64 0, .int .i64 0, .int .i64 0, .int .i64 0, .int .i64 0, .int .i64 0, .int .i64 0, .int .i64 0, .int .i64 0, .int .i64 0, .int .i64 0, .int .i64 0, .int .i64 0, .int .i64 0, .int .i64 0, .int .i64 0, .int .i64 0, .int .i64 0] 29)).setRow w1.heap.size #[.int .i64 0, .int .i64 256, .int .i64 8, .int .i64 0, .int .i64 1000, .int .i64 100, .int .i64 256, .int .i64 1, .int .i64 0, .int .i64 0, .int .i64 256, .int .i64 8, .int .i64 0, .int .i64 1000, .int .i64 100, .int .i64 256, .int .i64 1, .int .i64 0, .int .i64 128]) = wa at WA RA BA ⊢
  go_wp2_with (refine wpList_load_blk2 (t := 29) rfl rfl rfl Try.underlying29 rfl (by kernel_rfl) WA.out ?_)
  refine (aw_rest _).mono ?_
  rintro e w2 ⟨rfl, hb⟩
  have W2 := hid (Blk.below WA.out hb WA.out.lt)
  have R2 := hid (Blk.below RA.out hb RA.out.lt)
  have B2 := hid (BA.out.trans (hb.mono BA.out.size))
  have l1 := W2.out.lt
  have l2 := R2.out.lt
  clear hb
  go_upto_region 3 with (refine wpList_store_blk2 (b := w2.heap.size) (t := 33) (e := 33) (cs0 := #[.int .i64 0, .int .i64 0, .int .i64 0, .int .i64 0]) (cs := #[.int .i64 500, .int .i64 80, .int .i64 500, .int .i64 80]) rfl rfl rfl rfl (by kernel_rfl) rfl (by simp [Value.oneCell']) (Blk.at_new w2 rfl) ?_)
  have SA := hid (Blk.row (Blk.at_new w2 (b := w2.heap.size) (t := 33) (cs := #[.int .i64 0, .int .i64 0, .int .i64 0, .int .i64 0]) rfl) #[.int .i64 500, .int .i64 80, .int .i64 500, .int .i64 80])
  have W3 := hid (Blk.rowOther (g := w2.heap.size) (Blk.alloc W2.out (.cells #[.int .i64 0, .int .i64 0, .int .i64 0, .int .i64 0] 33)) (by omega) #[.int .i64 500, .int .i64 80, .int .i64 500, .int .i64 80])
  have R3 := hid (Blk.rowOther (g := w2.heap.size) (Blk.alloc R2.out (.cells #[.int .i64 0, .int .i64 0, .int .i64 0, .int .i64 0] 33)) (by omega) #[.int .i64 500, .int .i64 80, .int .i64 500, .int .i64 80])
  have B3 := hid (Below.row (g := w2.heap.size) (Below.alloc B2.out B2.out.size (.cells #[.int .i64 0, .int .i64 0, .int .i64 0, .int .i64 0] 33)) B2.out.size #[.int .i64 500, .int .i64 80, .int .i64 500, .int .i64 80])
  generalize ((w2.alloc (.cells #[.int .i64 0, .int .i64 0, .int .i64 0, .int .i64 0] 33)).setRow w2.heap.size #[.int .i64 500, .int .i64 80, .int .i64 500, .int .i64 80]) = wb at SA W3 R3 B3 ⊢
  go_wp2_with (first
    | (refine wpList_load_blk2 (t := 29) rfl rfl rfl Try.underlying29 rfl (by kernel_rfl) W3.out ?_)
    | (refine wpList_load_blk2 (t := 33) rfl rfl rfl Try.underlying33 rfl (by kernel_rfl) SA.out ?_))
  have r1 : Rds Nn ((wb.alloc (.cells #[.int .i64 520, .int .i64 80] 31)).alloc (.cells #[.int .i64 d, .int .i64 0] 31)) 2 (some ⟨wb.heap.size, 0, none⟩) 1 (ints [[520, 80]].flatten) := (Rds.pairAt wb _ (.int .i64 520) (.int .i64 80) _ rfl).keep ((Chg.refl Nn _).alloc _)
  have r2 : Rds Nn ((wb.alloc (.cells #[.int .i64 520, .int .i64 80] 31)).alloc (.cells #[.int .i64 d, .int .i64 0] 31)) 2 (some ⟨wb.heap.size + 1, 0, none⟩) 1 (ints [[d, 0]].flatten) := Rds.pairAt _ _ (.int .i64 d) (.int .i64 0) _ (by simp)
  refine (aw_run d x y _ _ _ _ _ r1 r2 HE.out HR.out).mono ?_
  rintro e w4 ⟨p, q, c, rfl, hc, hb⟩
  have R4 := hid (Blk.below (Blk.alloc (Blk.alloc R3.out _) _) hb (Blk.lt (Blk.alloc (Blk.alloc R3.out _) _)))
  have B4 := hid ((Below.alloc (Below.alloc B3.out B3.out.size _) (Nat.le_trans B3.out.size (by simp)) _).trans (hb.mono (Nat.le_trans B3.out.size (by simp <;> omega))))
  have hc0 := hc w4 (Below.refl _ _)
  obtain ⟨e1, e2⟩ := hc0
  have fR := R4.out.frozen
  have cR := R4.out.cell
  clear hc hb r1 r2
  go_wp2
  have K := hid ((R4.out.set 0 (.int .i64 x)).set 1 (.int .i64 y))
  have k0 := K.out.cell 0
  have k1 := K.out.cell 1
  simp at k0 k1
  refine bodyPost_ret (v := .agg #[.int .i64 x, .int .i64 y]) (by simp [results, Try.results34, go_sem, k0, k1]) rfl ?_
  exact ⟨rfl, (B4.out.setCell (show w.heap.size ≤ (⟨w.heap.size, 0, none⟩ : Addr).block from Nat.le_refl _) _).setCell (show w.heap.size ≤ (⟨w.heap.size, 1, none⟩ : Addr).block from Nat.le_refl _) _⟩
theorem aw_e1 : wErr LP LP 128 500 80 500 80 [[520, 80]] [[0, 0]] = 0 := by decide +kernel
theorem aw_r1 : wRows LP LP 128 500 80 500 80 [[520, 80]] [[0, 0]] = [[520, 80]] := by decide +kernel
theorem aw_e2 : wErr LP LP 128 500 80 500 80 [[520, 80]] [[10, 0]] = 0 := by decide +kernel
theorem aw_r2 : wRows LP LP 128 500 80 500 80 [[520, 80]] [[10, 0]] = [[530, 85]] := by decide +kernel
theorem aw_e3 : wErr LP LP 128 500 80 500 80 [[520, 80]] [[-11, 0]] = 0 := by decide +kernel
theorem aw_r3 : wRows LP LP 128 500 80 500 80 [[520, 80]] [[-11, 0]] = [[509, 74]] := by decide +kernel
set_option linter.unusedSimpArgs false in
set_option maxRecDepth 100000 in
set_option maxHeartbeats 8000000 in
theorem awake_any (w : World) : Calls Try.prog 14 #[] w fun e w' => e = .returned (.bool true) ∧ Below w.heap.size w w' := by
  go_enter Try.func14, Try.ntmps14
  go_wp2_with fail
  refine (loops_any _).mono ?_
  rintro e y1 ⟨rfl, hb⟩
  have B1 := hid hb
  clear hb
  go_wp2_with fail
  refine (aw_rest _).mono ?_
  rintro e y2 ⟨rfl, hb⟩
  have B2 := hid (B1.out.trans (hb.mono B1.out.size))
  clear hb
  go_upto_region 2 with (refine wpList_store_blk2 (b := y2.heap.size) (t := 33) (e := 33) (cs0 := #[.int .i64 0, .int .i64 0, .int .i64 0, .int .i64 0]) (cs := #[.int .i64 500, .int .i64 80, .int .i64 500, .int .i64 80]) rfl rfl rfl rfl (by kernel_rfl) rfl (by simp [Value.oneCell']) (Blk.at_new y2 rfl) ?_)
  have SA3 := hid (Blk.row (Blk.at_new y2 (b := y2.heap.size) (t := 33) (cs := #[.int .i64 0, .int .i64 0, .int .i64 0, .int .i64 0]) rfl) #[.int .i64 500, .int .i64 80, .int .i64 500, .int .i64 80])
  have B3 := hid (Below.row (g := y2.heap.size) (Below.alloc B2.out B2.out.size (.cells #[.int .i64 0, .int .i64 0, .int .i64 0, .int .i64 0] 33)) B2.out.size #[.int .i64 500, .int .i64 80, .int .i64 500, .int .i64 80])
  generalize ((y2.alloc (.cells #[.int .i64 0, .int .i64 0, .int .i64 0, .int .i64 0] 33)).setRow y2.heap.size #[.int .i64 500, .int .i64 80, .int .i64 500, .int .i64 80]) = y3 at SA3 B3 ⊢
  go_wp2_with fail
  refine (loops_any _).mono ?_
  rintro e y4 ⟨rfl, hb⟩
  have SA4 := hid (Blk.below SA3.out hb SA3.out.lt)
  have B4 := hid (B3.out.trans (hb.mono B3.out.size))
  clear hb
  go_wp2_with fail
  refine (aw_lim _).mono ?_
  rintro e y5 ⟨rfl, hb⟩
  have SA5 := hid (Blk.below SA4.out hb SA4.out.lt)
  have B5 := hid (B4.out.trans (hb.mono B4.out.size))
  have l5 := SA5.out.lt
  clear hb
  go_upto_region 3 with (first
    | (refine wpList_store_blk2 (b := y5.heap.size) (t := 54) (e := 54) (cs0 := #[.int .i64 0, .int .i64 0]) (cs := #[.int .i64 (-10), .int .i64 1010]) rfl rfl rfl rfl (by kernel_rfl) rfl (by simp [Value.oneCell']) (Blk.alloc (Blk.at_new y5 rfl) _) ?_)
    | (refine wpList_store_blk2 (b := y5.heap.size + 1) (t := 54) (e := 54) (cs0 := #[.int .i64 0, .int .i64 0]) (cs := #[.int .i64 (-505), .int .i64 1505]) rfl rfl rfl rfl (by kernel_rfl) rfl (by simp [Value.oneCell']) (Blk.rowOther (Blk.at_new _ (by simp)) (by omega) _) ?_))
  have PA6 := hid (Blk.rowOther (g := y5.heap.size + 1) (Blk.row (Blk.alloc (Blk.at_new y5 (b := y5.heap.size) (t := 54) (cs := #[.int .i64 0, .int .i64 0]) rfl) (.cells #[.int .i64 0, .int .i64 0] 54)) #[.int .i64 (-10), .int .i64 1010]) (by omega) #[.int .i64 (-505), .int .i64 1505])
  have QA6 := hid (Blk.row (Blk.rowOther (g := y5.heap.size) (Blk.at_new (y5.alloc (.cells #[.int .i64 0, .int .i64 0] 54)) (b := y5.heap.size + 1) (t := 54) (cs := #[.int .i64 0, .int .i64 0]) (by simp)) (by omega) #[.int .i64 (-10), .int .i64 1010]) #[.int .i64 (-505), .int .i64 1505])
  have SA6 := hid (Blk.rowOther (g := y5.heap.size + 1) (Blk.rowOther (g := y5.heap.size) (Blk.alloc (Blk.alloc SA5.out (.cells #[.int .i64 0, .int .i64 0] 54)) (.cells #[.int .i64 0, .int .i64 0] 54)) (by omega) #[.int .i64 (-10), .int .i64 1010]) (by omega) #[.int .i64 (-505), .int .i64 1505])
  have B6 := hid (Below.row (g := y5.heap.size + 1) (Below.row (g := y5.heap.size) (Below.alloc (Below.alloc B5.out B5.out.size (.cells #[.int .i64 0, .int .i64 0] 54)) (Nat.le_trans B5.out.size (by simp)) (.cells #[.int .i64 0, .int .i64 0] 54)) B5.out.size #[.int .i64 (-10), .int .i64 1010]) (Nat.le_trans B5.out.size (by omega)) #[.int .i64 (-505), .int .i64 1505])
  generalize ((((y5.alloc (.cells #[.int .i64 0, .int .i64 0] 54)).alloc (.cells #[.int .i64 0, .int .i64 0] 54)).setRow y5.heap.size #[.int .i64 (-10), .int .i64 1010]).setRow (y5.heap.size + 1) #[.int .i64 (-505), .int .i64 1505]) = y6 at PA6 QA6 SA6 B6 ⊢
  have l6 := PA6.out.lt
  have l7 := QA6.out.lt
  have l8 := SA6.out.lt
  go_upto_region 4 with (refine wpList_store_blk2 (b := y6.heap.size) (t := 31) (e := 31) (cs0 := #[.int .i64 0, .int .i64 0]) (cs := #[.int .i64 500, .int .i64 80]) rfl rfl rfl rfl (by kernel_rfl) rfl (by simp [Value.oneCell']) (Blk.at_new y6 rfl) ?_)
  have RA7 := hid (Blk.row (Blk.at_new y6 (b := y6.heap.size) (t := 31) (cs := #[.int .i64 0, .int .i64 0]) rfl) #[.int .i64 500, .int .i64 80])
  have PA7 := hid (Blk.rowOther (g := y6.heap.size) (Blk.alloc PA6.out (.cells #[.int .i64 0, .int .i64 0] 31)) (by omega) #[.int .i64 500, .int .i64 80])
  have QA7 := hid (Blk.rowOther (g := y6.heap.size) (Blk.alloc QA6.out (.cells #[.int .i64 0, .int .i64 0] 31)) (by omega) #[.int .i64 500, .int .i64 80])
  have SA7 := hid (Blk.rowOther (g := y6.heap.size) (Blk.alloc SA6.out (.cells #[.int .i64 0, .int .i64 0] 31)) (by omega) #[.int .i64 500, .int .i64 80])
  have B7 := hid (Below.row (g := y6.heap.size) (Below.alloc B6.out B6.out.size (.cells #[.int .i64 0, .int .i64 0] 31)) B6.out.size #[.int .i64 500, .int .i64 80])
  generalize ((y6.alloc (.cells #[.int .i64 0, .int .i64 0] 31)).setRow y6.heap.size #[.int .i64 500, .int .i64 80]) = y7 at RA7 PA7 QA7 SA7 B7 ⊢
  have cS := SA7.out.cell
  have cR := RA7.out.cell
  go_wp2_with fail
  clear cS cR
  refine (one_any 0 520 80 _ aw_e1 aw_r1).mono ?_
  rintro e y8 ⟨rfl, hb⟩
  have PA8 := hid (Blk.below PA7.out hb PA7.out.lt)
  have QA8 := hid (Blk.below QA7.out hb QA7.out.lt)
  have B8 := hid (B7.out.trans (hb.mono B7.out.size))
  clear hb
  go_wp2_with fail
  refine (one_any 10 530 85 _ aw_e2 aw_r2).mono ?_
  rintro e y9 ⟨rfl, hb⟩
  have PA9 := hid (Blk.below PA8.out hb PA8.out.lt)
  have QA9 := hid (Blk.below QA8.out hb QA8.out.lt)
  have B9 := hid (B8.out.trans (hb.mono B8.out.size))
  clear hb
  go_wp2_with fail
  refine (one_any (-11) 509 74 _ aw_e3 aw_r3).mono ?_
  rintro e y10 ⟨rfl, hb⟩
  have PA10 := hid (Blk.below PA9.out hb PA9.out.lt)
  have QA10 := hid (Blk.below QA9.out hb QA9.out.lt)
  have B10 := hid (B9.out.trans (hb.mono B9.out.size))
  clear hb
  have cP := PA10.out.cell
  have cQ := QA10.out.cell
  go_wp2
  go_ret
  exact ⟨rfl, B10.out⟩
end Go.Proofs.Ytfdblofpfpmbhaa
