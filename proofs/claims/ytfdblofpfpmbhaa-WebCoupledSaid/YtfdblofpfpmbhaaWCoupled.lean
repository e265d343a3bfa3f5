/- WebCoupled: for every input the law returns true. No condition. -/
import Derived.Test.YtfdblofpfpmbhaaWPlain2
namespace Go.Proofs.Ytfdblofpfpmbhaa
open Go.RowKit

theorem pairs_inv {xs ys : List Int} {k : Nat} {s v : Int} (h : (pairs xs ys)[k]? = some [s, v]) : xs[k]? = some s ∧ ys[k]? = some v := by
  unfold pairs at h
  rw [List.getElem?_zipWith] at h
  split at h
  · rename_i a b e1 e2
    injection h with h
    injection h with h1 h2
    injection h2 with h2 _
    subst h1 h2
    exact ⟨e1, e2⟩
  · cases h
theorem mix_at {xs ys : List Int} {k : Nat} {d : Int} (hk : k ≤ xs.length) (h : (xs.take k ++ ys.drop k)[k]? = some d) : ys[k]? = some d := by
  rw [List.getElem?_append_right (by rw [List.length_take]; omega), List.length_take, Nat.min_eq_left hk, Nat.sub_self, List.getElem?_drop, Nat.add_zero] at h
  exact h
theorem mix_length {xs ys : List Int} {k n : Nat} (hx : xs.length = n) (hy : ys.length = n) (hk : k ≤ n) : (xs.take k ++ ys.drop k).length = n := by
  rw [List.length_append, List.length_take, List.length_drop]; omega
theorem own_draw {w : World} {N : Nat} {e : TypeId} {sz n : Nat} {v : Value} {xs : List Value} (h : w.ownsRow N e sz v n xs) (k : Nat) : (w.drewN k).ownsRow N e sz v n xs := h
set_option linter.unusedSimpArgs false in
set_option maxRecDepth 100000 in
set_option maxHeartbeats 8000000 in
theorem webCoupled_in (b m : CP) (cp : Int) (oB oM vB vM : Int) (a1 a2 : Option Addr) (c1 c2 n1 n2 : Nat) (S D : List (List Int)) (w : World) (r1 : Rds Nn w 2 a1 n1 (ints S.flatten)) (r2 : Rds Nn w 2 a2 n2 (ints D.flatten)) (t1 : ∀ r ∈ S, r.length = 2) (t2 : ∀ r ∈ D, r.length = 2) (h1 : n1 = S.length) (h2 : n2 = D.length) (hl1 : n1 ≤ maxLen) (hl2 : n2 ≤ maxLen) : Calls Try.prog 7 #[.agg #[.int .i64 b.kp, .int .i64 b.ki, .int .i64 b.sh, .int .i64 b.lo, .int .i64 b.hi, .int .i64 b.rate, .int .i64 b.ga, .int .i64 b.la, .int .i64 b.de, .int .i64 m.kp, .int .i64 m.ki, .int .i64 m.sh, .int .i64 m.lo, .int .i64 m.hi, .int .i64 m.rate, .int .i64 m.ga, .int .i64 m.la, .int .i64 m.de, .int .i64 cp], .agg #[.int .i64 oB, .int .i64 oM, .int .i64 vB, .int .i64 vM, .slice a1 n1 c1, .slice a2 n2 c2]] w fun e w' => e = .returned (.bool true) ∧ Below w.heap.size w w' := by
  have R1 := hid r1
  have R2 := hid r2
  have TT1 := hid t1
  have TT2 := hid t2
  have N1 := hid h1
  have N2 := hid h2
  clear r1 r2 t1 t2 h1 h2
  go_enter Try.func7, Try.ntmps7
  go_upto_region 1 with fail
  have W0 := hid (Blk.alloc (Blk.at_new w (b := w.heap.size) (t := 29) (cs := #[.int .i64 b.kp, .int .i64 b.ki, .int .i64 b.sh, .int .i64 b.lo, .int .i64 b.hi, .int .i64 b.rate, .int .i64 b.ga, .int .i64 b.la, .int .i64 b.de, .int .i64 m.kp, .int .i64 m.ki, .int .i64 m.sh, .int .i64 m.lo, .int .i64 m.hi, .int .i64 m.rate, .int .i64 m.ga, .int .i64 m.la, .int .i64 m.de, .int .i64 cp]) rfl) (.cells #[.int .i64 oB, .int .i64 oM, .int .i64 vB, .int .i64 vM, .slice a1 n1 c1, .slice a2 n2 c2] 45))
  have X0 := hid (Blk.at_new (w.alloc (.cells #[.int .i64 b.kp, .int .i64 b.ki, .int .i64 b.sh, .int .i64 b.lo, .int .i64 b.hi, .int .i64 b.rate, .int .i64 b.ga, .int .i64 b.la, .int .i64 b.de, .int .i64 m.kp, .int .i64 m.ki, .int .i64 m.sh, .int .i64 m.lo, .int .i64 m.hi, .int .i64 m.rate, .int .i64 m.ga, .int .i64 m.la, .int .i64 m.de, .int .i64 cp] 29)) (b := w.heap.size + 1) (t := 45) (cs := #[.int .i64 oB, .int .i64 oM, .int .i64 vB, .int .i64 vM, .slice a1 n1 c1, .slice a2 n2 c2]) (by simp))
  have B0 := hid (Below.alloc (Below.alloc (Below.refl w.heap.size w) (Nat.le_refl _) (.cells #[.int .i64 b.kp, .int .i64 b.ki, .int .i64 b.sh, .int .i64 b.lo, .int .i64 b.hi, .int .i64 b.rate, .int .i64 b.ga, .int .i64 b.la, .int .i64 b.de, .int .i64 m.kp, .int .i64 m.ki, .int .i64 m.sh, .int .i64 m.lo, .int .i64 m.hi, .int .i64 m.rate, .int .i64 m.ga, .int .i64 m.la, .int .i64 m.de, .int .i64 cp] 29)) (by simp) (.cells #[.int .i64 oB, .int .i64 oM, .int .i64 vB, .int .i64 vM, .slice a1 n1 c1, .slice a2 n2 c2] 45))
  generalize ((w.alloc (.cells #[.int .i64 b.kp, .int .i64 b.ki, .int .i64 b.sh, .int .i64 b.lo, .int .i64 b.hi, .int .i64 b.rate, .int .i64 b.ga, .int .i64 b.la, .int .i64 b.de, .int .i64 m.kp, .int .i64 m.ki, .int .i64 m.sh, .int .i64 m.lo, .int .i64 m.hi, .int .i64 m.rate, .int .i64 m.ga, .int .i64 m.la, .int .i64 m.de, .int .i64 cp] 29)).alloc (.cells #[.int .i64 oB, .int .i64 oM, .int .i64 vB, .int .i64 vM, .slice a1 n1 c1, .slice a2 n2 c2] 45)) = wa at W0 X0 B0 ⊢
  go_wp2_with (refine wpList_load_blk2 (t := 45) rfl rfl rfl Try.underlying45 rfl (by kernel_rfl) X0.out ?_)
  refine (small_any oB oM vB vM a1 a2 n1 n2 c1 c2 _ hl1 hl2).mono ?_
  rintro e y1 ⟨rfl, hb⟩
  have W1 := hid (Blk.below W0.out hb W0.out.lt)
  have X1 := hid (Blk.below X0.out hb X0.out.lt)
  have B1 := hid (B0.out.trans (hb.mono B0.out.size))
  clear hb
  by_cases hf : n1 ≤ 520 ∧ n2 ≤ 520
  rotate_left
  · have hf2 : (decide (n1 ≤ 520) && decide (n2 ≤ 520)) = false := by simp; omega
    rw [hf2]
    clear hf hf2
    go_wp2_with fail
    refine (awake_any _).mono ?_
    rintro e y2 ⟨rfl, hb⟩
    go_wp2
    go_ret
    exact ⟨rfl, B1.out.trans (hb.mono B1.out.size)⟩
  have hf2 : (decide (n1 ≤ 520) && decide (n2 ≤ 520)) = true := by simp; omega
  obtain ⟨hf3, hf4⟩ := hf
  rw [hf2]
  clear hf2
  go_upto_region 3 with fail
  refine wp_region_hand (fun w' => Blk w' w.heap.size 29 #[.int .i64 b.kp, .int .i64 b.ki, .int .i64 b.sh, .int .i64 b.lo, .int .i64 b.hi, .int .i64 b.rate, .int .i64 b.ga, .int .i64 b.la, .int .i64 b.de, .int .i64 m.kp, .int .i64 m.ki, .int .i64 m.sh, .int .i64 m.lo, .int .i64 m.hi, .int .i64 m.rate, .int .i64 m.ga, .int .i64 m.la, .int .i64 m.de, .int .i64 cp] ∧ Blk w' (w.heap.size + 1) 45 #[.int .i64 oB, .int .i64 oM, .int .i64 vB, .int .i64 vM, .slice a1 n1 c1, .slice a2 n2 c2]) (by kernel_rfl) ?_
  simp only [List.length_cons, List.length_nil, Nat.zero_add, Nat.reduceAdd]
  have hS : Blk y1.drew w.heap.size 29 #[.int .i64 b.kp, .int .i64 b.ki, .int .i64 b.sh, .int .i64 b.lo, .int .i64 b.hi, .int .i64 b.rate, .int .i64 b.ga, .int .i64 b.la, .int .i64 b.de, .int .i64 m.kp, .int .i64 m.ki, .int .i64 m.sh, .int .i64 m.lo, .int .i64 m.hi, .int .i64 m.rate, .int .i64 m.ga, .int .i64 m.la, .int .i64 m.de, .int .i64 cp] ∧ Blk y1.drew (w.heap.size + 1) 45 #[.int .i64 oB, .int .i64 oM, .int .i64 vB, .int .i64 vM, .slice a1 n1 c1, .slice a2 n2 c2] := ⟨W1.out, X1.out⟩
  refine take_at (i := 0) (v := .agg #[.int .i64 b.kp, .int .i64 b.ki, .int .i64 b.sh, .int .i64 b.lo, .int .i64 b.hi, .int .i64 b.rate, .int .i64 b.ga, .int .i64 b.la, .int .i64 b.de, .int .i64 m.kp, .int .i64 m.ki, .int .i64 m.sh, .int .i64 m.lo, .int .i64 m.hi, .int .i64 m.rate, .int .i64 m.ga, .int .i64 m.la, .int .i64 m.de, .int .i64 cp]) rfl rfl (by kernel_rfl) (by kernel_rfl) (by kernel_rfl) (fun _ _ _ h => h) (Or.inl ⟨by rfl, fun wi hSw => exec_loads (p := .pointer (some ⟨w.heap.size, 0, none⟩)) rfl rfl (load_blk hSw.1 Try.underlying29 rfl (by kernel_rfl))⟩) hS ?_
  try simp only [List.setIfInBounds_toArray, List.set_cons_zero, List.set_cons_succ]
  refine take_at (i := 1) (v := .agg #[.int .i64 oB, .int .i64 oM, .int .i64 vB, .int .i64 vM, .slice a1 n1 c1, .slice a2 n2 c2]) rfl rfl (by kernel_rfl) (by kernel_rfl) (by kernel_rfl) (fun _ _ _ h => h) (Or.inl ⟨by rfl, fun wi hSw => exec_loads (p := .pointer (some ⟨w.heap.size + 1, 0, none⟩)) rfl rfl (load_blk hSw.2 Try.underlying45 rfl (by kernel_rfl))⟩) hS ?_
  try simp only [List.setIfInBounds_toArray, List.set_cons_zero, List.set_cons_succ]
  refine take_at (i := 3) (v := ?_) rfl rfl (by kernel_rfl) (by kernel_rfl) (by kernel_rfl) (fun _ _ _ h => h) (Or.inl ⟨by rfl, ?_⟩) hS ?_
  rotate_left
  · intro w hSw; (try dsimp only at hSw); go_simp; try with_reducible rfl
  try simp only [List.setIfInBounds_toArray, List.set_cons_zero, List.set_cons_succ]
  refine take_at (i := 4) (v := ?_) rfl rfl (by kernel_rfl) (by kernel_rfl) (by kernel_rfl) (fun _ _ _ h => h) (Or.inl ⟨by rfl, ?_⟩) hS ?_
  rotate_left
  · intro wi hSw; have ci0 := hSw.2.cell; go_simp; try with_reducible rfl
  try simp only [List.setIfInBounds_toArray, List.set_cons_zero, List.set_cons_succ]
  refine take_at (i := 5) (v := ?_) rfl rfl (by kernel_rfl) (by kernel_rfl) (by kernel_rfl) (fun _ _ _ h => h) (Or.inl ⟨by rfl, ?_⟩) hS ?_
  rotate_left
  · intro w hSw; (try dsimp only at hSw); go_simp; try with_reducible rfl
  try simp only [List.setIfInBounds_toArray, List.set_cons_zero, List.set_cons_succ]
  refine take_at (i := 6) (v := ?_) rfl rfl (by kernel_rfl) (by kernel_rfl) (by kernel_rfl) (fun _ _ _ h => h) (Or.inl ⟨by rfl, ?_⟩) hS ?_
  rotate_left
  · intro wi hSw; have ci0 := hSw.2.cell; go_simp; try with_reducible rfl
  try simp only [List.setIfInBounds_toArray, List.set_cons_zero, List.set_cons_succ]
  refine wpAnyH_ready (rs := [2]) (by kernel_rfl) (by simp) ?_
  refine AllReadyH.cons rfl (fun K hK => ?_) AllReadyH.nil
  go_simp
  (go_at_call 17; refine (start_any oB oM vB vM a1 a2 n1 n2 c1 c2 _).mono ?_; rintro e y2 ⟨rfl, hb⟩; have HB2 := hid (show Below y1.heap.size y1 y2 from by first | exact hb | exact (Below.drew (Below.refl _ _)).trans hb); have W2 := hid (Blk.below W1.out HB2.out W1.out.lt); have X2 := hid (Blk.below X1.out HB2.out X1.out.lt); have B2 := hid (B1.out.trans (HB2.out.mono B1.out.size)); clear hb hS)
  refine hK.out _ _ ⟨W2.out, X2.out⟩ (fun hS => ?_)
  clear hK K
  try simp only [Act.put, List.setIfInBounds_toArray, List.set_cons_zero, List.set_cons_succ]
  refine wpAnyH_ready (rs := [7]) (by kernel_rfl) (by simp) ?_
  refine AllReadyH.cons rfl (fun K hK => ?_) AllReadyH.nil
  go_simp
  (go_at_call 16; refine (wrun_any b m cp oB oM vB vM a1 a2 c1 c2 n1 n2 S D _ (R1.out.below (B2.out.mono (Nat.le_refl _))) (R2.out.below (B2.out.mono (Nat.le_refl _))) TT1.out TT2.out N1.out N2.out (by omega) (by omega)).mono ?_; rintro e y3 ⟨u, rfl, hu, hb⟩; have HB3 := hid (show Below y2.heap.size y2 y3 from by first | exact hb | exact (Below.drew (Below.refl _ _)).trans hb); have W3 := hid (Blk.below W2.out HB3.out W2.out.lt); have X3 := hid (Blk.below X2.out HB3.out X2.out.lt); have B3 := hid (B2.out.trans (HB3.out.mono B2.out.size)); obtain ⟨A, c, rfl, _, _⟩ := own_form hu; have RU := hid (Rds.own hu (S := Nn) (fun _ _ => id)); clear hu; clear hb hS)
  refine hK.out _ _ ⟨W3.out, X3.out⟩ (fun hS => ?_)
  clear hK K
  try simp only [Act.put, List.setIfInBounds_toArray, List.set_cons_zero, List.set_cons_succ]
  refine take_at (i := 8) (v := ?_) rfl rfl (by kernel_rfl) (by kernel_rfl) (by kernel_rfl) (fun _ _ _ h => h) (Or.inl ⟨by rfl, ?_⟩) hS ?_
  rotate_left
  · intro w hSw; (try dsimp only at hSw); go_simp; try with_reducible rfl
  try simp only [List.setIfInBounds_toArray, List.set_cons_zero, List.set_cons_succ]
  refine take_at (i := 9) (v := ?_) rfl rfl (by kernel_rfl) (by kernel_rfl) (by kernel_rfl) (fun _ _ _ h => h) (Or.inl ⟨by rfl, ?_⟩) hS ?_
  rotate_left
  · intro w hSw; (try dsimp only at hSw); go_simp; try with_reducible rfl
  try simp only [List.setIfInBounds_toArray, List.set_cons_zero, List.set_cons_succ]
  refine take_at (i := 10) (v := ?_) rfl rfl (by kernel_rfl) (by kernel_rfl) (by kernel_rfl) (fun _ _ _ h => h) (Or.inl ⟨by rfl, ?_⟩) hS ?_
  rotate_left
  · intro w hSw; (try dsimp only at hSw); go_simp; try with_reducible rfl
  try simp only [List.setIfInBounds_toArray, List.set_cons_zero, List.set_cons_succ]
  refine take_at (i := 11) (v := ?_) rfl rfl (by kernel_rfl) (by kernel_rfl) (by kernel_rfl) (fun _ _ _ h => h) (Or.inl ⟨by rfl, ?_⟩) hS ?_
  rotate_left
  · intro w hSw; (try dsimp only at hSw); go_simp; try with_reducible rfl
  try simp only [List.setIfInBounds_toArray, List.set_cons_zero, List.set_cons_succ]
  refine take_at (i := 12) (v := ?_) rfl rfl (by kernel_rfl) (by kernel_rfl) (by kernel_rfl) (fun _ _ _ h => h) (Or.inl ⟨by rfl, ?_⟩) hS ?_
  rotate_left
  · intro w hSw; (try dsimp only at hSw); go_simp; try with_reducible rfl
  try simp only [List.setIfInBounds_toArray, List.set_cons_zero, List.set_cons_succ]
  refine wpAnyH_done (by kernel_rfl) ?_ _
  simp only [Sure, Exit.then]
  clear hS
  by_cases he : wErr b m cp oB oM vB vM S D = 0
  rotate_left
  · have hz : (wErr b m cp oB oM vB vM S D != 0) = true := by simpa using he
    have hl : (wRows b m cp oB oM vB vM S D).length = 0 := by unfold wRows; rw [if_neg he]; rfl
    go_wp2_with fail
    refine (awake_any _).mono ?_
    rintro e yz ⟨rfl, hb⟩
    go_wp2
    go_ret
    exact ⟨rfl, B3.out.trans (hb.mono B3.out.size)⟩

  obtain ⟨hc, _, hDS, hbE, hmE⟩ := wErr_ok he
  obtain rfl : n1 = n2 := by rw [N1.out, N2.out, hDS]
  have hl := (wRows_ok he).2
  have hl2 : (wRows b m cp oB oM vB vM S D).length = n1 := by rw [hl, N1.out]
  have HR := hid (wRows_ok he).1
  have HBE := hid hbE
  have HME := hid hmE
  have HM2 := hid (mErr he)
  have ML := hid ((mDist_len he).trans N1.out.symm)
  have BL := hid ((bVals_len he).trans N1.out.symm)
  have WC := hid (chkW_ok hc)
  rw [he, hl2]
  rw [hl2] at RU
  have HL := hid hl2
  have cX := X3.out.cell
  clear he hc hDS hbE hmE hl hl2
  go_upto_region 8 with fail
  clear cX
  refine wp_region_hand (fun w' => Blk w' w.heap.size 29 #[.int .i64 b.kp, .int .i64 b.ki, .int .i64 b.sh, .int .i64 b.lo, .int .i64 b.hi, .int .i64 b.rate, .int .i64 b.ga, .int .i64 b.la, .int .i64 b.de, .int .i64 m.kp, .int .i64 m.ki, .int .i64 m.sh, .int .i64 m.lo, .int .i64 m.hi, .int .i64 m.rate, .int .i64 m.ga, .int .i64 m.la, .int .i64 m.de, .int .i64 cp] ∧ Blk w' (w.heap.size + 1) 45 #[.int .i64 oB, .int .i64 oM, .int .i64 vB, .int .i64 vM, .slice a1 n1 c1, .slice a2 n1 c2]) (by kernel_rfl) ?_
  simp only [List.length_cons, List.length_nil, Nat.zero_add, Nat.reduceAdd]
  have hS : Blk y3.drew w.heap.size 29 #[.int .i64 b.kp, .int .i64 b.ki, .int .i64 b.sh, .int .i64 b.lo, .int .i64 b.hi, .int .i64 b.rate, .int .i64 b.ga, .int .i64 b.la, .int .i64 b.de, .int .i64 m.kp, .int .i64 m.ki, .int .i64 m.sh, .int .i64 m.lo, .int .i64 m.hi, .int .i64 m.rate, .int .i64 m.ga, .int .i64 m.la, .int .i64 m.de, .int .i64 cp] ∧ Blk y3.drew (w.heap.size + 1) 45 #[.int .i64 oB, .int .i64 oM, .int .i64 vB, .int .i64 vM, .slice a1 n1 c1, .slice a2 n1 c2] := ⟨W3.out, X3.out⟩
  refine take_at (i := 0) (v := ?_) rfl rfl (by kernel_rfl) (by kernel_rfl) (by kernel_rfl) (fun _ _ _ h => h) (Or.inl ⟨by rfl, ?_⟩) hS ?_
  rotate_left
  · intro w hSw; (try dsimp only at hSw); go_simp; try with_reducible rfl
  try simp only [List.setIfInBounds_toArray, List.set_cons_zero, List.set_cons_succ]
  refine take_at (i := 1) (v := .agg #[.int .i64 (b.kp), .int .i64 (b.ki), .int .i64 (b.sh), .int .i64 (b.lo), .int .i64 (b.hi), .int .i64 (b.rate), .int .i64 (b.ga), .int .i64 (b.la), .int .i64 (b.de)]) rfl rfl (by kernel_rfl) (by kernel_rfl) (by kernel_rfl) (fun _ _ _ h => h) (Or.inl ⟨by rfl, fun wi hSw => exec_loads (p := .pointer (some ⟨w.heap.size, 0, none⟩)) rfl rfl (load_part (l := #[.int .i64 (b.kp), .int .i64 (b.ki), .int .i64 (b.sh), .int .i64 (b.lo), .int .i64 (b.hi), .int .i64 (b.rate), .int .i64 (b.ga), .int .i64 (b.la), .int .i64 (b.de)]) hSw.1 (part_b b m cp) Try.underlying27 rfl (by kernel_rfl))⟩) hS ?_
  try simp only [List.setIfInBounds_toArray, List.set_cons_zero, List.set_cons_succ]
  refine take_at (i := 2) (v := ?_) rfl rfl (by kernel_rfl) (by kernel_rfl) (by kernel_rfl) (fun _ _ _ h => h) (Or.inl ⟨by rfl, ?_⟩) hS ?_
  rotate_left
  · intro w hSw; (try dsimp only at hSw); go_simp; try with_reducible rfl
  try simp only [List.setIfInBounds_toArray, List.set_cons_zero, List.set_cons_succ]
  refine take_at (i := 3) (v := ?_) rfl rfl (by kernel_rfl) (by kernel_rfl) (by kernel_rfl) (fun _ _ _ h => h) (Or.inl ⟨by rfl, ?_⟩) hS ?_
  rotate_left
  · intro w hSw; (try dsimp only at hSw); go_simp; try with_reducible rfl
  try simp only [List.setIfInBounds_toArray, List.set_cons_zero, List.set_cons_succ]
  refine take_at (i := 4) (v := ?_) rfl rfl (by kernel_rfl) (by kernel_rfl) (by kernel_rfl) (fun _ _ _ h => h) (Or.inl ⟨by rfl, ?_⟩) hS ?_
  rotate_left
  · intro wi hSw; have ci0 := hSw.2.cell; go_simp; try with_reducible rfl
  try simp only [List.setIfInBounds_toArray, List.set_cons_zero, List.set_cons_succ]
  refine take_at (i := 5) (v := ?_) rfl rfl (by kernel_rfl) (by kernel_rfl) (by kernel_rfl) (fun _ _ _ h => h) (Or.inl ⟨by rfl, ?_⟩) hS ?_
  rotate_left
  · intro w hSw; (try dsimp only at hSw); go_simp; try with_reducible rfl
  try simp only [List.setIfInBounds_toArray, List.set_cons_zero, List.set_cons_succ]
  refine take_at (i := 6) (v := ?_) rfl rfl (by kernel_rfl) (by kernel_rfl) (by kernel_rfl) (fun _ _ _ h => h) (Or.inl ⟨by rfl, ?_⟩) hS ?_
  rotate_left
  · intro w hSw; (try dsimp only at hSw); go_simp; try with_reducible rfl
  try simp only [List.setIfInBounds_toArray, List.set_cons_zero, List.set_cons_succ]
  refine take_at (i := 7) (v := ?_) rfl rfl (by kernel_rfl) (by kernel_rfl) (by kernel_rfl) (fun _ _ _ h => h) (Or.inl ⟨by rfl, ?_⟩) hS ?_
  rotate_left
  · intro wi hSw; have ci0 := hSw.2.cell; go_simp; try with_reducible rfl
  try simp only [List.setIfInBounds_toArray, List.set_cons_zero, List.set_cons_succ]
  refine take_at (i := 8) (v := ?_) rfl rfl (by kernel_rfl) (by kernel_rfl) (by kernel_rfl) (fun _ _ _ h => h) (Or.inl ⟨by rfl, ?_⟩) hS ?_
  rotate_left
  · intro w hSw; (try dsimp only at hSw); go_simp; try with_reducible rfl
  try simp only [List.setIfInBounds_toArray, List.set_cons_zero, List.set_cons_succ]
  refine take_at (i := 9) (v := ?_) rfl rfl (by kernel_rfl) (by kernel_rfl) (by kernel_rfl) (fun _ _ _ h => h) (Or.inl ⟨by rfl, ?_⟩) hS ?_
  rotate_left
  · intro wi hSw; have ci0 := hSw.2.cell; go_simp; try with_reducible rfl
  try simp only [List.setIfInBounds_toArray, List.set_cons_zero, List.set_cons_succ]
  refine take_at (i := 11) (v := ?_) rfl rfl (by kernel_rfl) (by kernel_rfl) (by kernel_rfl) (fun _ _ _ h => h) (Or.inl ⟨by rfl, ?_⟩) hS ?_
  rotate_left
  · intro w hSw; (try dsimp only at hSw); go_simp; try with_reducible rfl
  try simp only [List.setIfInBounds_toArray, List.set_cons_zero, List.set_cons_succ]
  refine take_at (i := 12) (v := ?_) rfl rfl (by kernel_rfl) (by kernel_rfl) (by kernel_rfl) (fun _ _ _ h => h) (Or.inl ⟨by rfl, ?_⟩) hS ?_
  rotate_left
  · intro wi hSw; have ci0 := hSw.2.cell; go_simp; try with_reducible rfl
  try simp only [List.setIfInBounds_toArray, List.set_cons_zero, List.set_cons_succ]
  refine wpAnyH_ready (rs := [10]) (by kernel_rfl) (by simp) ?_
  refine AllReadyH.cons rfl (fun K hK => ?_) AllReadyH.nil
  go_simp
  (go_at_call 24; refine (basis_any _ _ _ S _ (R1.out.below (Below.drew B3.out)) TT1.out N1.out (by omega)).mono ?_; rintro e y4 ⟨u4, rfl, hu, hb⟩; have HB4 := hid (show Below y3.heap.size y3 y4 from by first | exact hb | exact (Below.drew (Below.refl _ _)).trans hb); have W4 := hid (Blk.below W3.out HB4.out W3.out.lt); have X4 := hid (Blk.below X3.out HB4.out X3.out.lt); have B4 := hid (B3.out.trans (HB4.out.mono B3.out.size)); rw [show (col 0 S).length = n1 by rw [col_len, ← N1.out]] at hu; obtain ⟨A4, c4, rfl, _, _⟩ := own_form hu; have RS4 := hid (Rds.own hu (S := Nn) (fun _ _ => id)); clear hu hb hS)
  refine hK.out _ _ ⟨W4.out, X4.out⟩ (fun hS => ?_)
  clear hK K
  try simp only [Act.put, List.setIfInBounds_toArray, List.set_cons_zero, List.set_cons_succ]
  refine wpAnyH_ready (rs := [13]) (by kernel_rfl) (by simp) ?_
  refine AllReadyH.cons rfl (fun K hK => ?_) AllReadyH.nil
  go_simp
  (go_at_call 24; refine (basis_any _ _ _ D _ (R2.out.below (B4.out.mono (Nat.le_refl _))) TT2.out N2.out (by omega)).mono ?_; rintro e y5 ⟨u5, rfl, hu, hb⟩; have HB5 := hid (show Below y4.heap.size y4 y5 from by first | exact hb | exact (Below.drew (Below.refl _ _)).trans hb); have W5 := hid (Blk.below W4.out HB5.out W4.out.lt); have X5 := hid (Blk.below X4.out HB5.out X4.out.lt); have B5 := hid (B4.out.trans (HB5.out.mono B4.out.size)); rw [show (col 0 D).length = n1 by rw [col_len, ← N2.out]] at hu; obtain ⟨A5, c5, rfl, _, _⟩ := own_form hu; have RD5 := hid (Rds.own hu (S := Nn) (fun _ _ => id)); have RS5 := hid (RS4.out.below HB5.out); clear hu hb hS)
  refine hK.out _ _ ⟨W5.out, X5.out⟩ (fun hS => ?_)
  clear hK K
  try simp only [Act.put, List.setIfInBounds_toArray, List.set_cons_zero, List.set_cons_succ]
  refine wpAnyH_ready (rs := [14]) (by kernel_rfl) (by simp) ?_
  refine AllReadyH.cons rfl (fun K hK => ?_) AllReadyH.nil
  go_simp
  (go_at_call 23; refine (crun b oB vB _ _ _ _ _ _ (col 0 S) (col 0 D) _ RS5.out RD5.out (by rw [col_len, ← N1.out]) (by rw [col_len, ← N2.out]) (by rw [col_len, ← N1.out]; omega)).mono ?_; rintro e y6 ⟨u6, rfl, hu, hb⟩; rw [HBE.out]; have HB6 := hid (show Below y5.heap.size y5 y6 from by first | exact hb | exact (Below.drew (Below.refl _ _)).trans hb); have W6 := hid (Blk.below W5.out HB6.out W5.out.lt); have X6 := hid (Blk.below X5.out HB6.out X5.out.lt); have B6 := hid (B5.out.trans (HB6.out.mono B5.out.size)); rw [show (b.rows oB vB (col 0 S) (col 0 D)).length = n1 by rw [CP.rows_len HBE.out, col_len, ← N1.out]] at hu; obtain ⟨A6, c6, rfl, _, _⟩ := own_form hu; have RB6 := hid (Rds.own hu (S := Nn) (fun _ _ => id)); clear hu hb hS)
  refine hK.out _ _ ⟨W6.out, X6.out⟩ (fun hS => ?_)
  clear hK K
  try simp only [Act.put, List.setIfInBounds_toArray, List.set_cons_zero, List.set_cons_succ]
  refine take_at (i := 15) (v := ?_) rfl rfl (by kernel_rfl) (by kernel_rfl) (by kernel_rfl) (fun _ _ _ h => h) (Or.inl ⟨by rfl, ?_⟩) hS ?_
  rotate_left
  · intro w hSw; (try dsimp only at hSw); go_simp; try with_reducible rfl
  try simp only [List.setIfInBounds_toArray, List.set_cons_zero, List.set_cons_succ]
  refine take_at (i := 16) (v := ?_) rfl rfl (by kernel_rfl) (by kernel_rfl) (by kernel_rfl) (fun _ _ _ h => h) (Or.inl ⟨by rfl, ?_⟩) hS ?_
  rotate_left
  · intro w hSw; (try dsimp only at hSw); go_simp; try with_reducible rfl
  try simp only [List.setIfInBounds_toArray, List.set_cons_zero, List.set_cons_succ]
  refine take_at (i := 17) (v := ?_) rfl rfl (by kernel_rfl) (by kernel_rfl) (by kernel_rfl) (fun _ _ _ h => h) (Or.inl ⟨by rfl, ?_⟩) hS ?_
  rotate_left
  · intro w hSw; (try dsimp only at hSw); go_simp; try with_reducible rfl
  try simp only [List.setIfInBounds_toArray, List.set_cons_zero, List.set_cons_succ]
  refine take_at (i := 18) (v := ?_) rfl rfl (by kernel_rfl) (by kernel_rfl) (by kernel_rfl) (fun _ _ _ h => h) (Or.inl ⟨by rfl, ?_⟩) hS ?_
  rotate_left
  · intro w hSw; (try dsimp only at hSw); go_simp; try with_reducible rfl
  try simp only [List.setIfInBounds_toArray, List.set_cons_zero, List.set_cons_succ]
  refine take_at (i := 19) (v := ?_) rfl rfl (by kernel_rfl) (by kernel_rfl) (by kernel_rfl) (fun _ _ _ h => h) (Or.inl ⟨by rfl, ?_⟩) hS ?_
  rotate_left
  · intro w hSw; (try dsimp only at hSw); go_simp; try with_reducible rfl
  try simp only [List.setIfInBounds_toArray, List.set_cons_zero, List.set_cons_succ]
  refine wpAnyH_done (by kernel_rfl) ?_ _
  simp only [Sure, Exit.then]
  clear hS
  have RU6 := hid (((RU.out.below HB4.out).below HB5.out).below HB6.out)
  clear RS4 RS5 RD5 RU
  have cX := X6.out.cell
  go_wp2_with fail
  refine (moist_any _ _ _ D _ (R2.out.below (B6.out.mono (Nat.le_refl _))) TT2.out N2.out (by omega)).mono ?_
  rintro e y7 ⟨u7, rfl, hu, hb⟩
  rw [show (col 1 D).length = n1 by rw [col_len, ← N2.out]] at hu
  obtain ⟨A7, c7, rfl, _, _⟩ := own_form hu
  have O7 := hid hu
  have HB7 := hid hb
  clear hu hb cX
  obtain ⟨N0, hN0⟩ : ∃ N0, y6.heap.size = N0 := ⟨_, rfl⟩
  go_wp2
  go_loopw [10] (fun i wr => ∃ k : Nat, k ≤ n1 ∧ i = .int .i64 k ∧ wr.ownsRow y6.heap.size 3 1 (.slice A7 n1 c7) n1 (ints ((mDist b cp oB vB S D).take k ++ (col 1 D).drop k)) ∧ Below y6.heap.size y6 wr) (fun i _ => n1 - (intOf i).toNat)
  case atStart => exact ⟨0, Nat.zero_le _, rfl, by simpa using O7.out, HB7.out⟩
  case round =>
    obtain ⟨k, hk, rfl, hown, hbel⟩ := hrel
    have OW := hid hown
    have BB := hid hbel
    clear hown hbel
    by_cases hlt : k < n1
    · obtain ⟨g, rfl⟩ := own_addr OW.out (by omega)
      obtain ⟨p1, o1, v, x, hA1, hp1, he1, hcell1⟩ := cells_at RU6.out wRows_two HL.out.symm hlt
      obtain ⟨p2, o2, s, t, hA2, hp2, he2, hcell2⟩ := cells_at R1.out TT1.out N1.out hlt
      subst hA1
      subst hA2
      obtain ⟨p3, o3, d, hA3, hp3, he3, hcell3⟩ := int_at (Rds.own OW.out (S := Nn) (fun _ _ => id)) hlt
      injection hA3 with hA3
      injection hA3 with hA4 hA5 _
      subst hA4 hA5
      have f1 := (hcell1 _ BB.out).1
      have f2 := (hcell2 _ (B6.out.trans (BB.out.mono B6.out.size))).1
      have f3 := hcell3 _ (Below.refl _ _)
      rw [HR.out] at he1
      have hv := (pairs_inv he1).1
      have hs := col_get (i := 0) he2
      have hd := mix_at (by rw [ML.out]; exact hk) he3
      have vbd := CP.vb HBE.out v (List.mem_of_getElem? hv)
      have sbd := CP.set_bd HBE.out s (List.mem_of_getElem? hs)
      have dbd := CP.dist_bd HME.out d (List.mem_of_getElem? hd)
      have MG := hid (show (mDist b cp oB vB S D)[k]? = some (lim (d + coup cp (v - s))) from dists_get hd hv hs)
      have cbd := coup_bd WC.out.2.2 (x := v - s) (X := 67108864) (by omega) (by omega)
      obtain ⟨cb1, cb2, cb3, cb4⟩ := cbd
      have w1 : IntKind.i64.wrap (v - s) = v - s := IntWalk.i64_in _ (by omega)
      obtain ⟨P, hP⟩ : ∃ P, cp * (v - s) = P := ⟨_, rfl⟩
      rw [hP] at cb1 cb2
      have w2 : IntKind.i64.wrap P = P := IntWalk.i64_in _ (by omega)
      have W7 := hid (Blk.below W6.out BB.out W6.out.lt)
      have X7 := hid (Blk.below X6.out BB.out X6.out.lt)
      have cW := W7.out.cell
      have cX := X7.out.cell
      clear hcell1 hcell2 hcell3 he1 he2 he3 hv hs hd
      go_wp2_with fail
      go_quiet (fail)
      have q1 := Ct.quo_bd (a := P) (b := 256)
      have q2 := Ct.quo_mul (a := P) (b := 256)
      have hfl : P / 256 = coup cp (v - s) := by unfold coup; rw [hP]
      obtain ⟨X, hX⟩ : ∃ X, coup cp (v - s) = X := ⟨_, rfl⟩
      rw [hX] at cb3 cb4 hfl MG
      clear hX hP
      have f4 : ∀ q, (wr.drewN q).cell? ⟨g, k, none⟩ = some (.int .i64 d) := fun _ => by rw [Nat.zero_add] at f3; exact f3
      have hfz := fun q => (own_draw OW.out q).frozenAt k
      have hlim : min (max (d + X) (-65536)) 65536 = lim (d + X) := by unfold lim; omega
      have w3 : IntKind.i64.wrap (d + X) = d + X := IntWalk.i64_in _ (by omega)
      rcases Int.lt_or_le P 0 with hp0 | hp0
      · have e := Ct.down_neg hp0 (show (1 : Int) ≤ 256 by omega)
        by_cases hg : P.tdiv 256 * 256 > P
        · rw [if_pos hg] at e
          go_upto_region 17 with fail
          rw [show P.tdiv 256 - 1 = X by omega]
          go_wp2
          go_roundw
          case rel =>
            refine ⟨k + 1, by omega, by go_num, ?_, ?_⟩
            · have hst := ((own_draw OW.out nq).stored k (.int .i64 (min (max (d + X) (-65536)) 65536))).1
              rw [int_set, hlim, set_mix MG.out (by rw [col_len, ← N2.out]; exact hlt)] at hst
              try rw [hlim]
              exact hst
            · exact (below_drewN BB.out _).setCell (show y6.heap.size ≤ g from (own_blk OW.out g rfl).1) _
          case measure => simp [intOf]; omega
        · rw [if_neg hg] at e
          go_upto_region 17 with fail
          rw [show P.tdiv 256 = X by omega]
          go_wp2
          go_roundw
          case rel =>
            refine ⟨k + 1, by omega, by go_num, ?_, ?_⟩
            · have hst := ((own_draw OW.out nq).stored k (.int .i64 (min (max (d + X) (-65536)) 65536))).1
              rw [int_set, hlim, set_mix MG.out (by rw [col_len, ← N2.out]; exact hlt)] at hst
              try rw [hlim]
              exact hst
            · exact (below_drewN BB.out _).setCell (show y6.heap.size ≤ g from (own_blk OW.out g rfl).1) _
          case measure => simp [intOf]; omega
      · have e := Ct.down_pos (b := 256) hp0
        have e2 : P.tdiv 256 * 256 ≤ P := by rw [e]; exact Int.ediv_mul_le P (by omega)
        go_upto_region 17 with fail
        first | rw [show P.tdiv 256 = X by omega] | rw [hfl] | skip
        go_wp2
        go_roundw
        case rel =>
          refine ⟨k + 1, by omega, by go_num, ?_, ?_⟩
          · have hst := ((own_draw OW.out nq).stored k (.int .i64 (min (max (d + X) (-65536)) 65536))).1
            rw [int_set, hlim, set_mix MG.out (by rw [col_len, ← N2.out]; exact hlt)] at hst
            try rw [hlim]
            exact hst
          · exact (below_drewN BB.out _).setCell (show y6.heap.size ≤ g from (own_blk OW.out g rfl).1) _
        case measure => simp [intOf]; omega
    · obtain rfl : k = n1 := by omega
      obtain ⟨y9, rfl⟩ : ∃ y, y = wr := ⟨_, rfl⟩
      have W9 := hid (Blk.below W6.out BB.out W6.out.lt)
      have X9 := hid (Blk.below X6.out BB.out X6.out.lt)
      have B9 := hid (B6.out.trans (BB.out.mono B6.out.size))
      have RU9 := hid (RU6.out.below BB.out)
      have RB9 := hid (RB6.out.below BB.out)
      have RD9 : Hid (Rds Nn y9 1 A7 k (ints (mDist b cp oB vB S D))) := hid (by
        have := Rds.own OW.out (S := Nn) (fun _ _ => id)
        rw [List.take_of_length_le (by rw [ML.out]; exact Nat.le_refl _), List.drop_eq_nil_of_le (by rw [col_len, ← N2.out]; exact Nat.le_refl _), List.append_nil] at this
        exact this)
      clear OW
      go_upto_region 18 with fail
      refine wp_region_hand (fun w' => Blk w' w.heap.size 29 #[.int .i64 b.kp, .int .i64 b.ki, .int .i64 b.sh, .int .i64 b.lo, .int .i64 b.hi, .int .i64 b.rate, .int .i64 b.ga, .int .i64 b.la, .int .i64 b.de, .int .i64 m.kp, .int .i64 m.ki, .int .i64 m.sh, .int .i64 m.lo, .int .i64 m.hi, .int .i64 m.rate, .int .i64 m.ga, .int .i64 m.la, .int .i64 m.de, .int .i64 cp] ∧ Blk w' (w.heap.size + 1) 45 #[.int .i64 oB, .int .i64 oM, .int .i64 vB, .int .i64 vM, .slice a1 k c1, .slice a2 k c2]) (by kernel_rfl) ?_
      simp only [List.length_cons, List.length_nil, Nat.zero_add, Nat.reduceAdd]
      have hS : Blk y9.drew w.heap.size 29 #[.int .i64 b.kp, .int .i64 b.ki, .int .i64 b.sh, .int .i64 b.lo, .int .i64 b.hi, .int .i64 b.rate, .int .i64 b.ga, .int .i64 b.la, .int .i64 b.de, .int .i64 m.kp, .int .i64 m.ki, .int .i64 m.sh, .int .i64 m.lo, .int .i64 m.hi, .int .i64 m.rate, .int .i64 m.ga, .int .i64 m.la, .int .i64 m.de, .int .i64 cp] ∧ Blk y9.drew (w.heap.size + 1) 45 #[.int .i64 oB, .int .i64 oM, .int .i64 vB, .int .i64 vM, .slice a1 k c1, .slice a2 k c2] := ⟨W9.out, X9.out⟩
      refine take_at (i := 0) (v := ?_) rfl rfl (by kernel_rfl) (by kernel_rfl) (by kernel_rfl) (fun _ _ _ h => h) (Or.inl ⟨by rfl, ?_⟩) hS ?_
      rotate_left
      · intro w hSw; (try dsimp only at hSw); go_simp; try with_reducible rfl
      try simp only [List.setIfInBounds_toArray, List.set_cons_zero, List.set_cons_succ]
      refine take_at (i := 1) (v := .agg #[.int .i64 (m.kp), .int .i64 (m.ki), .int .i64 (m.sh), .int .i64 (m.lo), .int .i64 (m.hi), .int .i64 (m.rate), .int .i64 (m.ga), .int .i64 (m.la), .int .i64 (m.de)]) rfl rfl (by kernel_rfl) (by kernel_rfl) (by kernel_rfl) (fun _ _ _ h => h) (Or.inl ⟨by rfl, fun wi hSw => exec_loads (p := .pointer (some ⟨w.heap.size, 9, none⟩)) rfl rfl (load_part (l := #[.int .i64 (m.kp), .int .i64 (m.ki), .int .i64 (m.sh), .int .i64 (m.lo), .int .i64 (m.hi), .int .i64 (m.rate), .int .i64 (m.ga), .int .i64 (m.la), .int .i64 (m.de)]) hSw.1 (part_m b m cp) Try.underlying27 rfl (by kernel_rfl))⟩) hS ?_
      try simp only [List.setIfInBounds_toArray, List.set_cons_zero, List.set_cons_succ]
      refine take_at (i := 2) (v := ?_) rfl rfl (by kernel_rfl) (by kernel_rfl) (by kernel_rfl) (fun _ _ _ h => h) (Or.inl ⟨by rfl, ?_⟩) hS ?_
      rotate_left
      · intro w hSw; (try dsimp only at hSw); go_simp; try with_reducible rfl
      try simp only [List.setIfInBounds_toArray, List.set_cons_zero, List.set_cons_succ]
      refine take_at (i := 3) (v := ?_) rfl rfl (by kernel_rfl) (by kernel_rfl) (by kernel_rfl) (fun _ _ _ h => h) (Or.inl ⟨by rfl, ?_⟩) hS ?_
      rotate_left
      · intro w hSw; (try dsimp only at hSw); go_simp; try with_reducible rfl
      try simp only [List.setIfInBounds_toArray, List.set_cons_zero, List.set_cons_succ]
      refine take_at (i := 4) (v := ?_) rfl rfl (by kernel_rfl) (by kernel_rfl) (by kernel_rfl) (fun _ _ _ h => h) (Or.inl ⟨by rfl, ?_⟩) hS ?_
      rotate_left
      · intro wi hSw; have ci0 := hSw.2.cell; go_simp; try with_reducible rfl
      try simp only [List.setIfInBounds_toArray, List.set_cons_zero, List.set_cons_succ]
      refine take_at (i := 5) (v := ?_) rfl rfl (by kernel_rfl) (by kernel_rfl) (by kernel_rfl) (fun _ _ _ h => h) (Or.inl ⟨by rfl, ?_⟩) hS ?_
      rotate_left
      · intro w hSw; (try dsimp only at hSw); go_simp; try with_reducible rfl
      try simp only [List.setIfInBounds_toArray, List.set_cons_zero, List.set_cons_succ]
      refine take_at (i := 6) (v := ?_) rfl rfl (by kernel_rfl) (by kernel_rfl) (by kernel_rfl) (fun _ _ _ h => h) (Or.inl ⟨by rfl, ?_⟩) hS ?_
      rotate_left
      · intro w hSw; (try dsimp only at hSw); go_simp; try with_reducible rfl
      try simp only [List.setIfInBounds_toArray, List.set_cons_zero, List.set_cons_succ]
      refine take_at (i := 7) (v := ?_) rfl rfl (by kernel_rfl) (by kernel_rfl) (by kernel_rfl) (fun _ _ _ h => h) (Or.inl ⟨by rfl, ?_⟩) hS ?_
      rotate_left
      · intro wi hSw; have ci0 := hSw.2.cell; go_simp; try with_reducible rfl
      try simp only [List.setIfInBounds_toArray, List.set_cons_zero, List.set_cons_succ]
      refine take_at (i := 8) (v := ?_) rfl rfl (by kernel_rfl) (by kernel_rfl) (by kernel_rfl) (fun _ _ _ h => h) (Or.inl ⟨by rfl, ?_⟩) hS ?_
      rotate_left
      · intro w hSw; (try dsimp only at hSw); go_simp; try with_reducible rfl
      try simp only [List.setIfInBounds_toArray, List.set_cons_zero, List.set_cons_succ]
      refine take_at (i := 9) (v := ?_) rfl rfl (by kernel_rfl) (by kernel_rfl) (by kernel_rfl) (fun _ _ _ h => h) (Or.inl ⟨by rfl, ?_⟩) hS ?_
      rotate_left
      · intro wi hSw; have ci0 := hSw.2.cell; go_simp; try with_reducible rfl
      try simp only [List.setIfInBounds_toArray, List.set_cons_zero, List.set_cons_succ]
      refine take_at (i := 11) (v := ?_) rfl rfl (by kernel_rfl) (by kernel_rfl) (by kernel_rfl) (fun _ _ _ h => h) (Or.inl ⟨by rfl, ?_⟩) hS ?_
      rotate_left
      · intro w hSw; (try dsimp only at hSw); go_simp; try with_reducible rfl
      try simp only [List.setIfInBounds_toArray, List.set_cons_zero, List.set_cons_succ]
      refine wpAnyH_ready (rs := [10]) (by kernel_rfl) (by simp) ?_
      refine AllReadyH.cons rfl (fun K hK => ?_) AllReadyH.nil
      go_simp
      (go_at_call 25; refine (moist_any _ _ _ S _ (R1.out.below (Below.drew B9.out)) TT1.out N1.out (by omega)).mono ?_; rintro e y10 ⟨u10, rfl, hu, hb⟩; have HB10 := hid (show Below y9.heap.size y9 y10 from by first | exact hb | exact (Below.drew (Below.refl _ _)).trans hb); have W10 := hid (Blk.below W9.out HB10.out W9.out.lt); have X10 := hid (Blk.below X9.out HB10.out X9.out.lt); have B10 := hid (B9.out.trans (HB10.out.mono B9.out.size)); rw [show (col 1 S).length = k by rw [col_len, ← N1.out]] at hu; obtain ⟨A10, c10, rfl, _, _⟩ := own_form hu; have RM10 := hid (Rds.own hu (S := Nn) (fun _ _ => id)); have RD10 := hid (RD9.out.below HB10.out); clear hu hb hS)
      refine hK.out _ _ ⟨W10.out, X10.out⟩ (fun hS => ?_)
      clear hK K
      try simp only [Act.put, List.setIfInBounds_toArray, List.set_cons_zero, List.set_cons_succ]
      refine wpAnyH_ready (rs := [12]) (by kernel_rfl) (by simp) ?_
      refine AllReadyH.cons rfl (fun K hK => ?_) AllReadyH.nil
      go_simp
      (go_at_call 23; refine (crun m oM vM _ _ _ _ _ _ (col 1 S) (mDist b cp oB vB S D) _ RM10.out RD10.out (by rw [col_len, ← N1.out]) ML.out.symm (by rw [col_len, ← N1.out]; omega)).mono ?_; rintro e y11 ⟨u11, rfl, hu, hb⟩; rw [HM2.out]; have HB11 := hid (show Below y10.heap.size y10 y11 from by first | exact hb | exact (Below.drew (Below.refl _ _)).trans hb); have W11 := hid (Blk.below W10.out HB11.out W10.out.lt); have X11 := hid (Blk.below X10.out HB11.out X10.out.lt); have B11 := hid (B10.out.trans (HB11.out.mono B10.out.size)); rw [show (m.rows oM vM (col 1 S) (mDist b cp oB vB S D)).length = k by rw [CP.rows_len HM2.out, col_len, ← N1.out]] at hu; obtain ⟨A11, c11, rfl, _, _⟩ := own_form hu; have RC11 := hid (Rds.own hu (S := Nn) (fun _ _ => id)); clear hu hb hS)
      refine hK.out _ _ ⟨W11.out, X11.out⟩ (fun hS => ?_)
      clear hK K
      try simp only [Act.put, List.setIfInBounds_toArray, List.set_cons_zero, List.set_cons_succ]
      refine take_at (i := 13) (v := ?_) rfl rfl (by kernel_rfl) (by kernel_rfl) (by kernel_rfl) (fun _ _ _ h => h) (Or.inl ⟨by rfl, ?_⟩) hS ?_
      rotate_left
      · intro w hSw; (try dsimp only at hSw); go_simp; try with_reducible rfl
      try simp only [List.setIfInBounds_toArray, List.set_cons_zero, List.set_cons_succ]
      refine take_at (i := 14) (v := ?_) rfl rfl (by kernel_rfl) (by kernel_rfl) (by kernel_rfl) (fun _ _ _ h => h) (Or.inl ⟨by rfl, ?_⟩) hS ?_
      rotate_left
      · intro w hSw; (try dsimp only at hSw); go_simp; try with_reducible rfl
      try simp only [List.setIfInBounds_toArray, List.set_cons_zero, List.set_cons_succ]
      refine take_at (i := 15) (v := ?_) rfl rfl (by kernel_rfl) (by kernel_rfl) (by kernel_rfl) (fun _ _ _ h => h) (Or.inl ⟨by rfl, ?_⟩) hS ?_
      rotate_left
      · intro w hSw; (try dsimp only at hSw); go_simp; try with_reducible rfl
      try simp only [List.setIfInBounds_toArray, List.set_cons_zero, List.set_cons_succ]
      refine take_at (i := 16) (v := ?_) rfl rfl (by kernel_rfl) (by kernel_rfl) (by kernel_rfl) (fun _ _ _ h => h) (Or.inl ⟨by rfl, ?_⟩) hS ?_
      rotate_left
      · intro w hSw; (try dsimp only at hSw); go_simp; try with_reducible rfl
      try simp only [List.setIfInBounds_toArray, List.set_cons_zero, List.set_cons_succ]
      refine take_at (i := 17) (v := ?_) rfl rfl (by kernel_rfl) (by kernel_rfl) (by kernel_rfl) (fun _ _ _ h => h) (Or.inl ⟨by rfl, ?_⟩) hS ?_
      rotate_left
      · intro w hSw; (try dsimp only at hSw); go_simp; try with_reducible rfl
      try simp only [List.setIfInBounds_toArray, List.set_cons_zero, List.set_cons_succ]
      refine wpAnyH_done (by kernel_rfl) ?_ _
      simp only [Sure, Exit.then]
      clear hS
      have RU11 := hid ((RU9.out.below HB10.out).below HB11.out)
      have RB11 := hid ((RB9.out.below HB10.out).below HB11.out)
      have cX := X11.out.cell
      go_wp2
      go_loopw [15] (fun i wr => ∃ j : Nat, j ≤ k ∧ i = .int .i64 j ∧ Below y11.heap.size y11 wr) (fun i _ => k - (intOf i).toNat)
      case atStart => exact ⟨0, Nat.zero_le _, rfl, Below.refl _ _⟩
      case round =>
        obtain ⟨j, hj, rfl, hbel⟩ := hrel
        have B2 := hid hbel
        clear hbel cX
        by_cases hlt : j < k
        · obtain ⟨pb, ob, vb, rfl, _, hvb, hcb⟩ := val_at RB11.out (CP.three _ _ _ _ _) (show k = _ by rw [CP.rows_len HBE.out, col_len, ← N1.out]) hlt
          obtain ⟨pm, om, vm, rfl, _, hvm, hcm⟩ := val_at RC11.out (CP.three _ _ _ _ _) (show k = _ by rw [CP.rows_len HM2.out, col_len, ← N1.out]) hlt
          obtain ⟨p1, o1, v, x, rfl, _, he1, hc1⟩ := cells_at RU11.out wRows_two HL.out.symm hlt
          rw [HR.out] at he1
          obtain ⟨e1, e2⟩ := pairs_inv he1
          have e3 := hvb.symm.trans e1
          have e4 := hvm.symm.trans e2
          injection e3 with e3
          injection e4 with e4
          subst e3 e4
          have f1 := hcb _ B2.out
          have f2 := hcm _ B2.out
          obtain ⟨f3, f4⟩ := hc1 _ B2.out
          clear hcb hcm hc1 hvb hvm he1 e1 e2
          go_wp2_with fail
          go_quiet (fail)
          go_wp2
          go_roundw
          case rel => exact ⟨j + 1, by omega, by go_num, below_drewN B2.out _⟩
          case measure => simp [intOf]; omega
        · obtain rfl : j = k := by omega
          go_wp2_with (go_at_call 14; refine (awake_any _).mono ?_; rintro e v9 ⟨rfl, hb⟩)
          go_ret
          exact ⟨rfl, (B11.out.trans (B2.out.mono B11.out.size)).trans (hb.mono (B11.out.trans (B2.out.mono B11.out.size)).size)⟩
theorem webCoupled_walk (x0 : Int) (x1 : Int) (x2 : Int) (x3 : Int) (x4 : Int) (x5 : Int) (x6 : Int) (x7 : Int) (x8 : Int) (x9 : Int) (x10 : Int) (x11 : Int) (x12 : Int) (x13 : Int) (x14 : Int) (x15 : Int) (x16 : Int) (x17 : Int) (x18 : Int) (x19 : Int) (x20 : Int) (x21 : Int) (x22 : Int) (a23 : Option Addr) (c23 : Nat) (x23 : List (List Int)) (a24 : Option Addr) (c24 : Nat) (x24 : List (List Int)) (w : World) (_h0 : (Lit.int .i64 x0).wf = true) (_h1 : (Lit.int .i64 x1).wf = true) (_h2 : (Lit.int .i64 x2).wf = true) (_h3 : (Lit.int .i64 x3).wf = true) (_h4 : (Lit.int .i64 x4).wf = true) (_h5 : (Lit.int .i64 x5).wf = true) (_h6 : (Lit.int .i64 x6).wf = true) (_h7 : (Lit.int .i64 x7).wf = true) (_h8 : (Lit.int .i64 x8).wf = true) (_h9 : (Lit.int .i64 x9).wf = true) (_h10 : (Lit.int .i64 x10).wf = true) (_h11 : (Lit.int .i64 x11).wf = true) (_h12 : (Lit.int .i64 x12).wf = true) (_h13 : (Lit.int .i64 x13).wf = true) (_h14 : (Lit.int .i64 x14).wf = true) (_h15 : (Lit.int .i64 x15).wf = true) (_h16 : (Lit.int .i64 x16).wf = true) (_h17 : (Lit.int .i64 x17).wf = true) (_h18 : (Lit.int .i64 x18).wf = true) (_h19 : (Lit.int .i64 x19).wf = true) (_h20 : (Lit.int .i64 x20).wf = true) (_h21 : (Lit.int .i64 x21).wf = true) (_h22 : (Lit.int .i64 x22).wf = true) (h23 : Rds Nn w 2 a23 x23.length (ints x23.flatten)) (g23 : x23.length ≤ c23 ∧ c23 ≤ maxLen ∧ (a23 = none → x23.length = 0 ∧ c23 = 0)) (i23 : ∀ r ∈ x23, r.length = 2 ∧ ∀ n ∈ r, (Lit.int .i64 n).wf = true) (h24 : Rds Nn w 2 a24 x24.length (ints x24.flatten)) (g24 : x24.length ≤ c24 ∧ c24 ≤ maxLen ∧ (a24 = none → x24.length = 0 ∧ c24 = 0)) (i24 : ∀ r ∈ x24, r.length = 2 ∧ ∀ n ∈ r, (Lit.int .i64 n).wf = true) :
    Calls Try.prog 7 #[.agg #[.int .i64 x0, .int .i64 x1, .int .i64 x2, .int .i64 x3, .int .i64 x4, .int .i64 x5, .int .i64 x6, .int .i64 x7, .int .i64 x8, .int .i64 x9, .int .i64 x10, .int .i64 x11, .int .i64 x12, .int .i64 x13, .int .i64 x14, .int .i64 x15, .int .i64 x16, .int .i64 x17, .int .i64 x18], .agg #[.int .i64 x19, .int .i64 x20, .int .i64 x21, .int .i64 x22, .slice a23 x23.length c23, .slice a24 x24.length c24]] w fun e w' => e = .returned (.bool true) ∧ Below w.heap.size w w' := webCoupled_in ⟨x0, x1, x2, x3, x4, x5, x6, x7, x8⟩ ⟨x9, x10, x11, x12, x13, x14, x15, x16, x17⟩ x18 x19 x20 x21 x22 a23 a24 c23 c24 _ _ x23 x24 w h23 h24 (fun r hr => (i23 r hr).1) (fun r hr => (i24 r hr).1) rfl rfl (Nat.le_trans g23.1 g23.2.1) (Nat.le_trans g24.1 g24.2.1)
end Go.Proofs.Ytfdblofpfpmbhaa
