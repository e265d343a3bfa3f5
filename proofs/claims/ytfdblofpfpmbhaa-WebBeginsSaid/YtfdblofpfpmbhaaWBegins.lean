/- WebBegins: for every input the law returns true. No condition. -/
import Derived.Test.YtfdblofpfpmbhaaWPlain2
import Derived.Lib.MinMax
namespace Go.Proofs.Ytfdblofpfpmbhaa
open Go.RowKit

set_option linter.unusedSimpArgs false in
set_option maxRecDepth 100000 in
set_option maxHeartbeats 8000000 in
theorem webBegins_in (b m : CP) (cp : Int) (oB oM vB vM : Int) (a1 a2 : Option Addr) (c1 c2 n1 n2 : Nat) (S D : List (List Int)) (w : World) (r1 : Rds Nn w 2 a1 n1 (ints S.flatten)) (r2 : Rds Nn w 2 a2 n2 (ints D.flatten)) (t1 : ∀ r ∈ S, r.length = 2) (t2 : ∀ r ∈ D, r.length = 2) (h1 : n1 = S.length) (h2 : n2 = D.length) (hl1 : n1 ≤ maxLen) (hl2 : n2 ≤ maxLen) (hc1 : n1 ≤ c1) (hc2 : n2 ≤ c2) (hm1 : c1 ≤ maxLen) (N : Nat) (hN : N ≤ 65535) : Calls Try.prog 9 #[.agg #[.int .i64 b.kp, .int .i64 b.ki, .int .i64 b.sh, .int .i64 b.lo, .int .i64 b.hi, .int .i64 b.rate, .int .i64 b.ga, .int .i64 b.la, .int .i64 b.de, .int .i64 m.kp, .int .i64 m.ki, .int .i64 m.sh, .int .i64 m.lo, .int .i64 m.hi, .int .i64 m.rate, .int .i64 m.ga, .int .i64 m.la, .int .i64 m.de, .int .i64 cp], .agg #[.int .i64 oB, .int .i64 oM, .int .i64 vB, .int .i64 vM, .slice a1 n1 c1, .slice a2 n2 c2], .int .u16 (N : Int)] w fun e w' => e = .returned (.bool true) ∧ Below w.heap.size w w' := by
  have R1 := hid r1
  have R2 := hid r2
  have TT1 := hid t1
  have TT2 := hid t2
  have N1 := hid h1
  have N2 := hid h2
  clear r1 r2 t1 t2 h1 h2
  go_enter Try.func9, Try.ntmps9
  go_upto_region 1 with fail
  have W0 := hid (Blk.alloc (Blk.at_new w (b := w.heap.size) (t := 29) (cs := #[.int .i64 b.kp, .int .i64 b.ki, .int .i64 b.sh, .int .i64 b.lo, .int .i64 b.hi, .int .i64 b.rate, .int .i64 b.ga, .int .i64 b.la, .int .i64 b.de, .int .i64 m.kp, .int .i64 m.ki, .int .i64 m.sh, .int .i64 m.lo, .int .i64 m.hi, .int .i64 m.rate, .int .i64 m.ga, .int .i64 m.la, .int .i64 m.de, .int .i64 cp]) rfl) (.cells #[.int .i64 oB, .int .i64 oM, .int .i64 vB, .int .i64 vM, .slice a1 n1 c1, .slice a2 n2 c2] 45))
  have X0 := hid (Blk.at_new (w.alloc (.cells #[.int .i64 b.kp, .int .i64 b.ki, .int .i64 b.sh, .int .i64 b.lo, .int .i64 b.hi, .int .i64 b.rate, .int .i64 b.ga, .int .i64 b.la, .int .i64 b.de, .int .i64 m.kp, .int .i64 m.ki, .int .i64 m.sh, .int .i64 m.lo, .int .i64 m.hi, .int .i64 m.rate, .int .i64 m.ga, .int .i64 m.la, .int .i64 m.de, .int .i64 cp] 29)) (b := w.heap.size + 1) (t := 45) (cs := #[.int .i64 oB, .int .i64 oM, .int .i64 vB, .int .i64 vM, .slice a1 n1 c1, .slice a2 n2 c2]) (by simp))
  have B0 := hid (Below.alloc (Below.alloc (Below.refl w.heap.size w) (Nat.le_refl _) (.cells #[.int .i64 b.kp, .int .i64 b.ki, .int .i64 b.sh, .int .i64 b.lo, .int .i64 b.hi, .int .i64 b.rate, .int .i64 b.ga, .int .i64 b.la, .int .i64 b.de, .int .i64 m.kp, .int .i64 m.ki, .int .i64 m.sh, .int .i64 m.lo, .int .i64 m.hi, .int .i64 m.rate, .int .i64 m.ga, .int .i64 m.la, .int .i64 m.de, .int .i64 cp] 29)) (by simp) (.cells #[.int .i64 oB, .int .i64 oM, .int .i64 vB, .int .i64 vM, .slice a1 n1 c1, .slice a2 n2 c2] 45))
  generalize ((w.alloc (.cells #[.int .i64 b.kp, .int .i64 b.ki, .int .i64 b.sh, .int .i64 b.lo, .int .i64 b.hi, .int .i64 b.rate, .int .i64 b.ga, .int .i64 b.la, .int .i64 b.de, .int .i64 m.kp, .int .i64 m.ki, .int .i64 m.sh, .int .i64 m.lo, .int .i64 m.hi, .int .i64 m.rate, .int .i64 m.ga, .int .i64 m.la, .int .i64 m.de, .int .i64 cp] 29)).alloc (.cells #[.int .i64 oB, .int .i64 oM, .int .i64 vB, .int .i64 vM, .slice a1 n1 c1, .slice a2 n2 c2] 45)) = wa at W0 X0 B0 ⊢
  go_wp2_with (refine wpList_load_blk2 (t := 45) rfl rfl rfl Try.underlying45 rfl (by kernel_rfl) X0.out ?_)
  refine (small_any oB oM vB vM a1 a2 n1 n2 c1 c2 _ hl1 hl2).mono ?_
  rintro e y1 ⟨rfl, hb⟩
  have W1 := hid (Blk.below W0.out hb W0.out.lt)
  have X1 := hid (Blk.below X0.out hb X0.out.lt)
  have B1 := hid (B0.out.trans (hb.mono B0.out.size))
  clear hb
  by_cases hf : n1 ≤ 520 ∧ n2 ≤ 520
  rotate_left
  · have hf2 : (decide (n1 ≤ 520) && decide (n2 ≤ 520)) = false := by simp; omega
    rw [hf2]
    clear hf hf2
    go_wp2_with fail
    refine (awake_any _).mono ?_
    rintro e y2 ⟨rfl, hb⟩
    go_wp2
    go_ret
    exact ⟨rfl, B1.out.trans (hb.mono B1.out.size)⟩
  have hf2 : (decide (n1 ≤ 520) && decide (n2 ≤ 520)) = true := by simp; omega
  obtain ⟨hf3, hf4⟩ := hf
  rw [hf2]
  clear hf2
  have cX := X1.out.cell
  unfold maxLen at hm1
  by_cases hn : n2 = n1
  rotate_left
  · go_wp2_with fail
    refine (awake_any _).mono ?_
    rintro e yz ⟨rfl, hb⟩
    go_wp2
    go_ret
    exact ⟨rfl, B1.out.trans (hb.mono B1.out.size)⟩
  obtain rfl : n1 = n2 := hn.symm
  go_upto_region 4 with fail
  obtain ⟨k, hk⟩ : ∃ k : Nat, (k : Int) = min (N : Int) (n1 : Int) := ⟨min N n1, by omega⟩
  rw [← hk]
  have hk1 : k ≤ n1 := by omega
  have hkc1 : k ≤ c1 := by omega
  have hkc2 : k ≤ c2 := by omega
  clear hk cX
  refine wp_region_hand (fun w' => Blk w' w.heap.size 29 #[.int .i64 b.kp, .int .i64 b.ki, .int .i64 b.sh, .int .i64 b.lo, .int .i64 b.hi, .int .i64 b.rate, .int .i64 b.ga, .int .i64 b.la, .int .i64 b.de, .int .i64 m.kp, .int .i64 m.ki, .int .i64 m.sh, .int .i64 m.lo, .int .i64 m.hi, .int .i64 m.rate, .int .i64 m.ga, .int .i64 m.la, .int .i64 m.de, .int .i64 cp] ∧ Blk w' (w.heap.size + 1) 45 #[.int .i64 oB, .int .i64 oM, .int .i64 vB, .int .i64 vM, .slice a1 n1 c1, .slice a2 n1 c2]) (by kernel_rfl) ?_
  simp only [List.length_cons, List.length_nil, Nat.zero_add, Nat.reduceAdd]
  have hS : Blk y1.drew w.heap.size 29 #[.int .i64 b.kp, .int .i64 b.ki, .int .i64 b.sh, .int .i64 b.lo, .int .i64 b.hi, .int .i64 b.rate, .int .i64 b.ga, .int .i64 b.la, .int .i64 b.de, .int .i64 m.kp, .int .i64 m.ki, .int .i64 m.sh, .int .i64 m.lo, .int .i64 m.hi, .int .i64 m.rate, .int .i64 m.ga, .int .i64 m.la, .int .i64 m.de, .int .i64 cp] ∧ Blk y1.drew (w.heap.size + 1) 45 #[.int .i64 oB, .int .i64 oM, .int .i64 vB, .int .i64 vM, .slice a1 n1 c1, .slice a2 n1 c2] := ⟨W1.out, X1.out⟩
  refine take_at (i := 0) (v := .agg #[.int .i64 b.kp, .int .i64 b.ki, .int .i64 b.sh, .int .i64 b.lo, .int .i64 b.hi, .int .i64 b.rate, .int .i64 b.ga, .int .i64 b.la, .int .i64 b.de, .int .i64 m.kp, .int .i64 m.ki, .int .i64 m.sh, .int .i64 m.lo, .int .i64 m.hi, .int .i64 m.rate, .int .i64 m.ga, .int .i64 m.la, .int .i64 m.de, .int .i64 cp]) rfl rfl (by kernel_rfl) (by kernel_rfl) (by kernel_rfl) (fun _ _ _ h => h) (Or.inl ⟨by rfl, fun wi hSw => exec_loads (p := .pointer (some ⟨w.heap.size, 0, none⟩)) rfl rfl (load_blk hSw.1 Try.underlying29 rfl (by kernel_rfl))⟩) hS ?_
  try simp only [List.setIfInBounds_toArray, List.set_cons_zero, List.set_cons_succ]
  refine take_at (i := 1) (v := .agg #[.int .i64 oB, .int .i64 oM, .int .i64 vB, .int .i64 vM, .slice a1 n1 c1, .slice a2 n1 c2]) rfl rfl (by kernel_rfl) (by kernel_rfl) (by kernel_rfl) (fun _ _ _ h => h) (Or.inl ⟨by rfl, fun wi hSw => exec_loads (p := .pointer (some ⟨w.heap.size + 1, 0, none⟩)) rfl rfl (load_blk hSw.2 Try.underlying45 rfl (by kernel_rfl))⟩) hS ?_
  try simp only [List.setIfInBounds_toArray, List.set_cons_zero, List.set_cons_succ]
  refine take_at (i := 3) (v := ?_) rfl rfl (by kernel_rfl) (by kernel_rfl) (by kernel_rfl) (fun _ _ _ h => h) (Or.inl ⟨by rfl, ?_⟩) hS ?_
  rotate_left
  · intro w hSw; (try dsimp only at hSw); go_simp; try with_reducible rfl
  try simp only [List.setIfInBounds_toArray, List.set_cons_zero, List.set_cons_succ]
  refine take_at (i := 4) (v := ?_) rfl rfl (by kernel_rfl) (by kernel_rfl) (by kernel_rfl) (fun _ _ _ h => h) (Or.inl ⟨by rfl, ?_⟩) hS ?_
  rotate_left
  · intro wi hSw; have ci0 := hSw.2.cell; go_simp; try with_reducible rfl
  try simp only [List.setIfInBounds_toArray, List.set_cons_zero, List.set_cons_succ]
  refine take_at (i := 5) (v := ?_) rfl rfl (by kernel_rfl) (by kernel_rfl) (by kernel_rfl) (fun _ _ _ h => h) (Or.inl ⟨by rfl, ?_⟩) hS ?_
  rotate_left
  · intro w hSw; (try dsimp only at hSw); go_simp; try with_reducible rfl
  try simp only [List.setIfInBounds_toArray, List.set_cons_zero, List.set_cons_succ]
  refine take_at (i := 6) (v := ?_) rfl rfl (by kernel_rfl) (by kernel_rfl) (by kernel_rfl) (fun _ _ _ h => h) (Or.inl ⟨by rfl, ?_⟩) hS ?_
  rotate_left
  · intro wi hSw; have ci0 := hSw.2.cell; go_simp; try with_reducible rfl
  try simp only [List.setIfInBounds_toArray, List.set_cons_zero, List.set_cons_succ]
  refine wpAnyH_ready (rs := [2]) (by kernel_rfl) (by simp) ?_
  refine AllReadyH.cons rfl (fun K hK => ?_) AllReadyH.nil
  go_simp
  (go_at_call 17; refine (start_any oB oM vB vM a1 a2 n1 n1 c1 c2 _).mono ?_; rintro e y2 ⟨rfl, hb⟩; have HB2 := hid (show Below y1.heap.size y1 y2 from by first | exact hb | exact (Below.drew (Below.refl _ _)).trans hb); have W2 := hid (Blk.below W1.out HB2.out W1.out.lt); have X2 := hid (Blk.below X1.out HB2.out X1.out.lt); have B2 := hid (B1.out.trans (HB2.out.mono B1.out.size)); clear hb hS)
  refine hK.out _ _ ⟨W2.out, X2.out⟩ (fun hS => ?_)
  clear hK K
  try simp only [Act.put, List.setIfInBounds_toArray, List.set_cons_zero, List.set_cons_succ]
  refine wpAnyH_ready (rs := [7]) (by kernel_rfl) (by simp) ?_
  refine AllReadyH.cons rfl (fun K hK => ?_) AllReadyH.nil
  go_simp
  (go_at_call 16; refine (wrun_any b m cp oB oM vB vM a1 a2 c1 c2 n1 n1 S D _ (R1.out.below (B2.out.mono (Nat.le_refl _))) (R2.out.below (B2.out.mono (Nat.le_refl _))) TT1.out TT2.out N1.out N2.out (by omega) (by omega)).mono ?_; rintro e y3 ⟨u, rfl, hu, hb⟩; have HB3 := hid (show Below y2.heap.size y2 y3 from by first | exact hb | exact (Below.drew (Below.refl _ _)).trans hb); have W3 := hid (Blk.below W2.out HB3.out W2.out.lt); have X3 := hid (Blk.below X2.out HB3.out X2.out.lt); have B3 := hid (B2.out.trans (HB3.out.mono B2.out.size)); obtain ⟨A, c, rfl, hcap, _⟩ := own_form hu; have RU := hid (Rds.own hu (S := Nn) (fun _ _ => id)); clear hu; clear hb hS)
  refine hK.out _ _ ⟨W3.out, X3.out⟩ (fun hS => ?_)
  clear hK K
  try simp only [Act.put, List.setIfInBounds_toArray, List.set_cons_zero, List.set_cons_succ]
  refine take_at (i := 8) (v := ?_) rfl rfl (by kernel_rfl) (by kernel_rfl) (by kernel_rfl) (fun _ _ _ h => h) (Or.inl ⟨by rfl, ?_⟩) hS ?_
  rotate_left
  · intro w hSw; (try dsimp only at hSw); go_simp; try with_reducible rfl
  try simp only [List.setIfInBounds_toArray, List.set_cons_zero, List.set_cons_succ]
  refine take_at (i := 9) (v := ?_) rfl rfl (by kernel_rfl) (by kernel_rfl) (by kernel_rfl) (fun _ _ _ h => h) (Or.inl ⟨by rfl, ?_⟩) hS ?_
  rotate_left
  · intro w hSw; (try dsimp only at hSw); go_simp; try with_reducible rfl
  try simp only [List.setIfInBounds_toArray, List.set_cons_zero, List.set_cons_succ]
  refine take_at (i := 10) (v := ?_) rfl rfl (by kernel_rfl) (by kernel_rfl) (by kernel_rfl) (fun _ _ _ h => h) (Or.inl ⟨by rfl, ?_⟩) hS ?_
  rotate_left
  · intro w hSw; (try dsimp only at hSw); go_simp; try with_reducible rfl
  try simp only [List.setIfInBounds_toArray, List.set_cons_zero, List.set_cons_succ]
  refine take_at (i := 11) (v := ?_) rfl rfl (by kernel_rfl) (by kernel_rfl) (by kernel_rfl) (fun _ _ _ h => h) (Or.inl ⟨by rfl, ?_⟩) hS ?_
  rotate_left
  · intro w hSw; (try dsimp only at hSw); go_simp; try with_reducible rfl
  try simp only [List.setIfInBounds_toArray, List.set_cons_zero, List.set_cons_succ]
  refine take_at (i := 12) (v := ?_) rfl rfl (by kernel_rfl) (by kernel_rfl) (by kernel_rfl) (fun _ _ _ h => h) (Or.inl ⟨by rfl, ?_⟩) hS ?_
  rotate_left
  · intro w hSw; (try dsimp only at hSw); go_simp; try with_reducible rfl
  try simp only [List.setIfInBounds_toArray, List.set_cons_zero, List.set_cons_succ]
  refine wpAnyH_done (by kernel_rfl) ?_ _
  simp only [Sure, Exit.then]
  clear hS
  go_upto_region 5 with fail
  refine wp_region_hand (fun w' => Blk w' w.heap.size 29 #[.int .i64 b.kp, .int .i64 b.ki, .int .i64 b.sh, .int .i64 b.lo, .int .i64 b.hi, .int .i64 b.rate, .int .i64 b.ga, .int .i64 b.la, .int .i64 b.de, .int .i64 m.kp, .int .i64 m.ki, .int .i64 m.sh, .int .i64 m.lo, .int .i64 m.hi, .int .i64 m.rate, .int .i64 m.ga, .int .i64 m.la, .int .i64 m.de, .int .i64 cp] ∧ Blk w' (w.heap.size + 1) 45 #[.int .i64 oB, .int .i64 oM, .int .i64 vB, .int .i64 vM, .slice a1 n1 c1, .slice a2 n1 c2]) (by kernel_rfl) ?_
  simp only [List.length_cons, List.length_nil, Nat.zero_add, Nat.reduceAdd]
  have hS : Blk y3.drew w.heap.size 29 #[.int .i64 b.kp, .int .i64 b.ki, .int .i64 b.sh, .int .i64 b.lo, .int .i64 b.hi, .int .i64 b.rate, .int .i64 b.ga, .int .i64 b.la, .int .i64 b.de, .int .i64 m.kp, .int .i64 m.ki, .int .i64 m.sh, .int .i64 m.lo, .int .i64 m.hi, .int .i64 m.rate, .int .i64 m.ga, .int .i64 m.la, .int .i64 m.de, .int .i64 cp] ∧ Blk y3.drew (w.heap.size + 1) 45 #[.int .i64 oB, .int .i64 oM, .int .i64 vB, .int .i64 vM, .slice a1 n1 c1, .slice a2 n1 c2] := ⟨W3.out, X3.out⟩
  refine take_at (i := 0) (v := .agg #[.int .i64 b.kp, .int .i64 b.ki, .int .i64 b.sh, .int .i64 b.lo, .int .i64 b.hi, .int .i64 b.rate, .int .i64 b.ga, .int .i64 b.la, .int .i64 b.de, .int .i64 m.kp, .int .i64 m.ki, .int .i64 m.sh, .int .i64 m.lo, .int .i64 m.hi, .int .i64 m.rate, .int .i64 m.ga, .int .i64 m.la, .int .i64 m.de, .int .i64 cp]) rfl rfl (by kernel_rfl) (by kernel_rfl) (by kernel_rfl) (fun _ _ _ h => h) (Or.inl ⟨by rfl, fun wi hSw => exec_loads (p := .pointer (some ⟨w.heap.size, 0, none⟩)) rfl rfl (load_blk hSw.1 Try.underlying29 rfl (by kernel_rfl))⟩) hS ?_
  try simp only [List.setIfInBounds_toArray, List.set_cons_zero, List.set_cons_succ]
  refine take_at (i := 1) (v := .agg #[.int .i64 oB, .int .i64 oM, .int .i64 vB, .int .i64 vM, .slice a1 n1 c1, .slice a2 n1 c2]) rfl rfl (by kernel_rfl) (by kernel_rfl) (by kernel_rfl) (fun _ _ _ h => h) (Or.inl ⟨by rfl, fun wi hSw => exec_loads (p := .pointer (some ⟨w.heap.size + 1, 0, none⟩)) rfl rfl (load_blk hSw.2 Try.underlying45 rfl (by kernel_rfl))⟩) hS ?_
  try simp only [List.setIfInBounds_toArray, List.set_cons_zero, List.set_cons_succ]
  refine take_at (i := 3) (v := ?_) rfl rfl (by kernel_rfl) (by kernel_rfl) (by kernel_rfl) (fun _ _ _ h => h) (Or.inl ⟨by rfl, ?_⟩) hS ?_
  rotate_left
  · intro w hSw; (try dsimp only at hSw); go_simp; try with_reducible rfl
  try simp only [List.setIfInBounds_toArray, List.set_cons_zero, List.set_cons_succ]
  refine take_at (i := 4) (v := ?_) rfl rfl (by kernel_rfl) (by kernel_rfl) (by kernel_rfl) (fun _ _ _ h => h) (Or.inl ⟨by rfl, ?_⟩) hS ?_
  rotate_left
  · intro wi hSw; have ci0 := hSw.2.cell; go_simp; try with_reducible rfl
  try simp only [List.setIfInBounds_toArray, List.set_cons_zero, List.set_cons_succ]
  refine take_at (i := 5) (v := ?_) rfl rfl (by kernel_rfl) (by kernel_rfl) (by kernel_rfl) (fun _ _ _ h => h) (Or.inl ⟨by rfl, ?_⟩) hS ?_
  rotate_left
  · intro w hSw; (try dsimp only at hSw); go_simp; try with_reducible rfl
  try simp only [List.setIfInBounds_toArray, List.set_cons_zero, List.set_cons_succ]
  refine take_at (i := 6) (v := ?_) rfl rfl (by kernel_rfl) (by kernel_rfl) (by kernel_rfl) (fun _ _ _ h => h) (Or.inl ⟨by rfl, ?_⟩) hS ?_
  rotate_left
  · intro w hSw; (try dsimp only at hSw); go_simp; try with_reducible rfl
  try simp only [List.setIfInBounds_toArray, List.set_cons_zero, List.set_cons_succ]
  refine take_at (i := 7) (v := ?_) rfl rfl (by kernel_rfl) (by kernel_rfl) (by kernel_rfl) (fun _ _ _ h => h) (Or.inl ⟨by rfl, ?_⟩) hS ?_
  rotate_left
  · intro w hSw; (try dsimp only at hSw); go_simp; try with_reducible rfl
  try simp only [List.setIfInBounds_toArray, List.set_cons_zero, List.set_cons_succ]
  refine take_at (i := 8) (v := ?_) rfl rfl (by kernel_rfl) (by kernel_rfl) (by kernel_rfl) (fun _ _ _ h => h) (Or.inl ⟨by rfl, ?_⟩) hS ?_
  rotate_left
  · intro wi hSw; have ci0 := hSw.2.cell; go_simp; try with_reducible rfl
  try simp only [List.setIfInBounds_toArray, List.set_cons_zero, List.set_cons_succ]
  refine take_at (i := 9) (v := ?_) rfl rfl (by kernel_rfl) (by kernel_rfl) (by kernel_rfl) (fun _ _ _ h => h) (Or.inl ⟨by rfl, ?_⟩) hS ?_
  rotate_left
  · intro w hSw; (try dsimp only at hSw); go_simp; try with_reducible rfl
  try simp only [List.setIfInBounds_toArray, List.set_cons_zero, List.set_cons_succ]
  refine take_at (i := 10) (v := ?_) rfl rfl (by kernel_rfl) (by kernel_rfl) (by kernel_rfl) (fun _ _ _ h => h) (Or.inl ⟨by rfl, ?_⟩) hS ?_
  rotate_left
  · intro w hSw; (try dsimp only at hSw); go_simp; try with_reducible rfl
  try simp only [List.setIfInBounds_toArray, List.set_cons_zero, List.set_cons_succ]
  refine wpAnyH_ready (rs := [2]) (by kernel_rfl) (by simp) ?_
  refine AllReadyH.cons rfl (fun K hK => ?_) AllReadyH.nil
  go_simp
  (go_at_call 17; refine (start_any oB oM vB vM a1 a2 n1 n1 c1 c2 _).mono ?_; rintro e y4 ⟨rfl, hb⟩; have HB4 := hid (show Below y3.heap.size y3 y4 from by first | exact hb | exact (Below.drew (Below.refl _ _)).trans hb); have W4 := hid (Blk.below W3.out HB4.out W3.out.lt); have X4 := hid (Blk.below X3.out HB4.out X3.out.lt); have B4 := hid (B3.out.trans (HB4.out.mono B3.out.size)); clear hb hS)
  refine hK.out _ _ ⟨W4.out, X4.out⟩ (fun hS => ?_)
  clear hK K
  try simp only [Act.put, List.setIfInBounds_toArray, List.set_cons_zero, List.set_cons_succ]
  refine wpAnyH_ready (rs := [11]) (by kernel_rfl) (by simp) ?_
  refine AllReadyH.cons rfl (fun K hK => ?_) AllReadyH.nil
  go_simp
  (go_at_call 16; refine (wrun_any b m cp oB oM vB vM a1 a2 c1 c2 k k (S.take k) (D.take k) _ (Rds.rowsCut (R1.out.below (B4.out.mono (Nat.le_refl _))) TT1.out hk1) (Rds.rowsCut (R2.out.below (B4.out.mono (Nat.le_refl _))) TT2.out (by omega)) (take_two TT1.out k) (take_two TT2.out k) (by rw [List.length_take, ← N1.out]; omega) (by rw [List.length_take, ← N2.out]; omega) (by omega) (by omega)).mono ?_; rintro e y5 ⟨u2, rfl, hu, hb⟩; have HB5 := hid (show Below y4.heap.size y4 y5 from by first | exact hb | exact (Below.drew (Below.refl _ _)).trans hb); have W5 := hid (Blk.below W4.out HB5.out W4.out.lt); have X5 := hid (Blk.below X4.out HB5.out X4.out.lt); have B5 := hid (B4.out.trans (HB5.out.mono B4.out.size)); obtain ⟨A2, c2', rfl, _, _⟩ := own_form hu; have RV := hid (Rds.own hu (S := Nn) (fun _ _ => id)); clear hu; clear hb hS)
  refine hK.out _ _ ⟨W5.out, X5.out⟩ (fun hS => ?_)
  clear hK K
  try simp only [Act.put, List.setIfInBounds_toArray, List.set_cons_zero, List.set_cons_succ]
  refine take_at (i := 12) (v := ?_) rfl rfl (by kernel_rfl) (by kernel_rfl) (by kernel_rfl) (fun _ _ _ h => h) (Or.inl ⟨by rfl, ?_⟩) hS ?_
  rotate_left
  · intro w hSw; (try dsimp only at hSw); go_simp; try with_reducible rfl
  try simp only [List.setIfInBounds_toArray, List.set_cons_zero, List.set_cons_succ]
  refine take_at (i := 13) (v := ?_) rfl rfl (by kernel_rfl) (by kernel_rfl) (by kernel_rfl) (fun _ _ _ h => h) (Or.inl ⟨by rfl, ?_⟩) hS ?_
  rotate_left
  · intro w hSw; (try dsimp only at hSw); go_simp; try with_reducible rfl
  try simp only [List.setIfInBounds_toArray, List.set_cons_zero, List.set_cons_succ]
  refine take_at (i := 14) (v := ?_) rfl rfl (by kernel_rfl) (by kernel_rfl) (by kernel_rfl) (fun _ _ _ h => h) (Or.inl ⟨by rfl, ?_⟩) hS ?_
  rotate_left
  · intro w hSw; (try dsimp only at hSw); go_simp; try with_reducible rfl
  try simp only [List.setIfInBounds_toArray, List.set_cons_zero, List.set_cons_succ]
  refine take_at (i := 15) (v := ?_) rfl rfl (by kernel_rfl) (by kernel_rfl) (by kernel_rfl) (fun _ _ _ h => h) (Or.inl ⟨by rfl, ?_⟩) hS ?_
  rotate_left
  · intro w hSw; (try dsimp only at hSw); go_simp; try with_reducible rfl
  try simp only [List.setIfInBounds_toArray, List.set_cons_zero, List.set_cons_succ]
  refine take_at (i := 16) (v := ?_) rfl rfl (by kernel_rfl) (by kernel_rfl) (by kernel_rfl) (fun _ _ _ h => h) (Or.inl ⟨by rfl, ?_⟩) hS ?_
  rotate_left
  · intro w hSw; (try dsimp only at hSw); go_simp; try with_reducible rfl
  try simp only [List.setIfInBounds_toArray, List.set_cons_zero, List.set_cons_succ]
  refine wpAnyH_done (by kernel_rfl) ?_ _
  simp only [Sure, Exit.then]
  clear hS
  have RU5 := hid ((RU.out.below HB4.out).below HB5.out)
  by_cases he : wErr b m cp oB oM vB vM S D = 0
  rotate_left
  · have hz : (wErr b m cp oB oM vB vM S D != 0) = true := by simpa using he
    have hl : (wRows b m cp oB oM vB vM S D).length = 0 := by unfold wRows; rw [if_neg he]; rfl
    go_wp2_with fail
    refine (awake_any _).mono ?_
    rintro e yz ⟨rfl, hb⟩
    go_wp2
    go_ret
    exact ⟨rfl, B5.out.trans (hb.mono B5.out.size)⟩
  obtain ⟨he2, hr2⟩ := wtake he k
  have hl := (wRows_ok he).2
  have hl2 : (wRows b m cp oB oM vB vM S D).length = n1 := by rw [hl, N1.out]
  rw [he, he2, hl2]
  have RT := hid (Rds.rowsCut RU5.out wRows_two (k := k) (by rw [hl2]; exact hk1))
  rw [hr2] at RV
  have cX := X5.out.cell
  rw [hl2] at hcap
  have hcc : n1 ≤ c := hcap
  have hkc : k ≤ c := by omega
  go_wp2_with fail
  rw [show (min (k : Int) (n1 : Int)).toNat = k by omega, show min k S.length = k by rw [← N1.out]; omega]
  have hlk : ((wRows b m cp oB oM vB vM S D).take k).length = k := by rw [List.length_take, hl2]; omega
  rw [hlk] at RV
  refine (same2_any _ _ _ _ _ _ _ _ _ RT.out RV.out (take_two wRows_two k) (take_two wRows_two k) hlk.symm hlk.symm (by omega)).mono ?_
  rintro e y6 ⟨rfl, hb⟩
  have B6 := hid (B5.out.trans (hb.mono B5.out.size))
  clear hb
  rw [show decide ((wRows b m cp oB oM vB vM S D).take k = (wRows b m cp oB oM vB vM S D).take k) = true by simp]
  go_wp2_with fail
  refine (awake_any _).mono ?_
  rintro e yz ⟨rfl, hb⟩
  go_wp2
  go_ret
  exact ⟨rfl, B6.out.trans (hb.mono B6.out.size)⟩
theorem webBegins_walk (x0 : Int) (x1 : Int) (x2 : Int) (x3 : Int) (x4 : Int) (x5 : Int) (x6 : Int) (x7 : Int) (x8 : Int) (x9 : Int) (x10 : Int) (x11 : Int) (x12 : Int) (x13 : Int) (x14 : Int) (x15 : Int) (x16 : Int) (x17 : Int) (x18 : Int) (x19 : Int) (x20 : Int) (x21 : Int) (x22 : Int) (a23 : Option Addr) (c23 : Nat) (x23 : List (List Int)) (a24 : Option Addr) (c24 : Nat) (x24 : List (List Int)) (x25 : Int) (w : World) (_h0 : (Lit.int .i64 x0).wf = true) (_h1 : (Lit.int .i64 x1).wf = true) (_h2 : (Lit.int .i64 x2).wf = true) (_h3 : (Lit.int .i64 x3).wf = true) (_h4 : (Lit.int .i64 x4).wf = true) (_h5 : (Lit.int .i64 x5).wf = true) (_h6 : (Lit.int .i64 x6).wf = true) (_h7 : (Lit.int .i64 x7).wf = true) (_h8 : (Lit.int .i64 x8).wf = true) (_h9 : (Lit.int .i64 x9).wf = true) (_h10 : (Lit.int .i64 x10).wf = true) (_h11 : (Lit.int .i64 x11).wf = true) (_h12 : (Lit.int .i64 x12).wf = true) (_h13 : (Lit.int .i64 x13).wf = true) (_h14 : (Lit.int .i64 x14).wf = true) (_h15 : (Lit.int .i64 x15).wf = true) (_h16 : (Lit.int .i64 x16).wf = true) (_h17 : (Lit.int .i64 x17).wf = true) (_h18 : (Lit.int .i64 x18).wf = true) (_h19 : (Lit.int .i64 x19).wf = true) (_h20 : (Lit.int .i64 x20).wf = true) (_h21 : (Lit.int .i64 x21).wf = true) (_h22 : (Lit.int .i64 x22).wf = true) (h23 : Rds Nn w 2 a23 x23.length (ints x23.flatten)) (g23 : x23.length ≤ c23 ∧ c23 ≤ maxLen ∧ (a23 = none → x23.length = 0 ∧ c23 = 0)) (i23 : ∀ r ∈ x23, r.length = 2 ∧ ∀ n ∈ r, (Lit.int .i64 n).wf = true) (h24 : Rds Nn w 2 a24 x24.length (ints x24.flatten)) (g24 : x24.length ≤ c24 ∧ c24 ≤ maxLen ∧ (a24 = none → x24.length = 0 ∧ c24 = 0)) (i24 : ∀ r ∈ x24, r.length = 2 ∧ ∀ n ∈ r, (Lit.int .i64 n).wf = true) (h25 : (Lit.int .u16 x25).wf = true) :
    Calls Try.prog 9 #[.agg #[.int .i64 x0, .int .i64 x1, .int .i64 x2, .int .i64 x3, .int .i64 x4, .int .i64 x5, .int .i64 x6, .int .i64 x7, .int .i64 x8, .int .i64 x9, .int .i64 x10, .int .i64 x11, .int .i64 x12, .int .i64 x13, .int .i64 x14, .int .i64 x15, .int .i64 x16, .int .i64 x17, .int .i64 x18], .agg #[.int .i64 x19, .int .i64 x20, .int .i64 x21, .int .i64 x22, .slice a23 x23.length c23, .slice a24 x24.length c24], .int .u16 x25] w fun e w' => e = .returned (.bool true) ∧ Below w.heap.size w w' := by
  obtain ⟨N, rfl⟩ : ∃ N : Nat, x25 = (N : Int) := ⟨x25.toNat, by simp [Lit.wf, IntKind.min, IntKind.max, IntKind.bits, IntKind.signed] at h25; omega⟩
  exact webBegins_in ⟨x0, x1, x2, x3, x4, x5, x6, x7, x8⟩ ⟨x9, x10, x11, x12, x13, x14, x15, x16, x17⟩ x18 x19 x20 x21 x22 a23 a24 c23 c24 _ _ x23 x24 w h23 h24 (fun r hr => (i23 r hr).1) (fun r hr => (i24 r hr).1) rfl rfl (Nat.le_trans g23.1 g23.2.1) (Nat.le_trans g24.1 g24.2.1) g23.1 g24.1 g23.2.1 N (by simp [Lit.wf, IntKind.min, IntKind.max, IntKind.bits, IntKind.signed] at h25; omega)
end Go.Proofs.Ytfdblofpfpmbhaa
