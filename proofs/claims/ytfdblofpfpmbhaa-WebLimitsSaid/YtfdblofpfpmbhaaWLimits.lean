/- WebLimits: for every input the law returns true. No condition. -/
import Derived.Test.YtfdblofpfpmbhaaWPlain2
import Derived.Lib.MinMax
namespace Go.Proofs.Ytfdblofpfpmbhaa
open Go.RowKit

theorem in_any (n f t : Int) (w : World) : Calls Try.prog 22 #[.int .i64 n, .agg #[.int .i64 f, .int .i64 t]] w fun e w' => e = .returned (.bool (Ct.inB n f t)) ∧ w' = w.alloc (.cells #[.int .i64 f, .int .i64 t] 54) := by
  have C := (Blk.at_new w (b := w.heap.size) (t := 54) (cs := #[.int .i64 f, .int .i64 t]) rfl).cell
  go_enter Try.func22, Try.ntmps22
  go_wp2
  all_goals go_ret
  all_goals refine ⟨ret_b ?_, rfl⟩
  all_goals simp [Ct.inB] <;> omega
theorem pairs_mem {xs ys : List Int} {k : Nat} {s v : Int} (h : (pairs xs ys)[k]? = some [s, v]) : s ∈ xs ∧ v ∈ ys := by
  unfold pairs at h
  rw [List.getElem?_zipWith] at h
  split at h
  · rename_i a b e1 e2
    injection h with h
    injection h with h1 h2
    injection h2 with h2 _
    subst h1 h2
    exact ⟨List.mem_of_getElem? e1, List.mem_of_getElem? e2⟩
  · cases h
theorem col_mem {i : Nat} {l : List (List Int)} {x : Int} (h : x ∈ col i l) : ∃ (j : Nat) (r : List Int), j < l.length ∧ l[j]? = some r ∧ x = r.getD i 0 := by
  obtain ⟨r, hr, rfl⟩ := List.mem_map.1 h
  obtain ⟨j, hj⟩ := List.mem_iff_getElem?.1 hr
  exact ⟨j, r, (List.getElem?_eq_some_iff.1 hj).1, hj, rfl⟩
set_option linter.unusedSimpArgs false in
set_option maxRecDepth 100000 in
set_option maxHeartbeats 8000000 in
theorem webLimits_in (b m : CP) (cp : Int) (oB oM vB vM : Int) (a1 a2 : Option Addr) (c1 c2 n1 n2 : Nat) (S D : List (List Int)) (w : World) (r1 : Rds Nn w 2 a1 n1 (ints S.flatten)) (r2 : Rds Nn w 2 a2 n2 (ints D.flatten)) (t1 : ∀ r ∈ S, r.length = 2) (t2 : ∀ r ∈ D, r.length = 2) (h1 : n1 = S.length) (h2 : n2 = D.length) (hl1 : n1 ≤ maxLen) (hl2 : n2 ≤ maxLen) (dB dM : Int) (hdB : dB ≤ 9223372036854775807) (hdM : dM ≤ 9223372036854775807) : Calls Try.prog 6 #[.agg #[.int .i64 b.kp, .int .i64 b.ki, .int .i64 b.sh, .int .i64 b.lo, .int .i64 b.hi, .int .i64 b.rate, .int .i64 b.ga, .int .i64 b.la, .int .i64 b.de, .int .i64 m.kp, .int .i64 m.ki, .int .i64 m.sh, .int .i64 m.lo, .int .i64 m.hi, .int .i64 m.rate, .int .i64 m.ga, .int .i64 m.la, .int .i64 m.de, .int .i64 cp], .agg #[.int .i64 oB, .int .i64 oM, .int .i64 vB, .int .i64 vM, .slice a1 n1 c1, .slice a2 n2 c2], .agg #[.int .i64 dB, .int .i64 dM]] w fun e w' => e = .returned (.bool true) ∧ Below w.heap.size w w' := by
  have R1 := hid r1
  have R2 := hid r2
  have TT1 := hid t1
  have TT2 := hid t2
  have N1 := hid h1
  have N2 := hid h2
  clear r1 r2 t1 t2 h1 h2
  go_enter Try.func6, Try.ntmps6
  go_upto_region 1 with fail
  have W0 := hid (Blk.alloc (Blk.alloc (Blk.at_new w (b := w.heap.size) (t := 29) (cs := #[.int .i64 b.kp, .int .i64 b.ki, .int .i64 b.sh, .int .i64 b.lo, .int .i64 b.hi, .int .i64 b.rate, .int .i64 b.ga, .int .i64 b.la, .int .i64 b.de, .int .i64 m.kp, .int .i64 m.ki, .int .i64 m.sh, .int .i64 m.lo, .int .i64 m.hi, .int .i64 m.rate, .int .i64 m.ga, .int .i64 m.la, .int .i64 m.de, .int .i64 cp]) rfl) (.cells #[.int .i64 oB, .int .i64 oM, .int .i64 vB, .int .i64 vM, .slice a1 n1 c1, .slice a2 n2 c2] 45)) (.cells #[.int .i64 dB, .int .i64 dM] 31))
  have X0 := hid (Blk.alloc (Blk.at_new (w.alloc (.cells #[.int .i64 b.kp, .int .i64 b.ki, .int .i64 b.sh, .int .i64 b.lo, .int .i64 b.hi, .int .i64 b.rate, .int .i64 b.ga, .int .i64 b.la, .int .i64 b.de, .int .i64 m.kp, .int .i64 m.ki, .int .i64 m.sh, .int .i64 m.lo, .int .i64 m.hi, .int .i64 m.rate, .int .i64 m.ga, .int .i64 m.la, .int .i64 m.de, .int .i64 cp] 29)) (b := w.heap.size + 1) (t := 45) (cs := #[.int .i64 oB, .int .i64 oM, .int .i64 vB, .int .i64 vM, .slice a1 n1 c1, .slice a2 n2 c2]) (by simp)) (.cells #[.int .i64 dB, .int .i64 dM] 31))
  have E0 := hid (Blk.at_new ((w.alloc (.cells #[.int .i64 b.kp, .int .i64 b.ki, .int .i64 b.sh, .int .i64 b.lo, .int .i64 b.hi, .int .i64 b.rate, .int .i64 b.ga, .int .i64 b.la, .int .i64 b.de, .int .i64 m.kp, .int .i64 m.ki, .int .i64 m.sh, .int .i64 m.lo, .int .i64 m.hi, .int .i64 m.rate, .int .i64 m.ga, .int .i64 m.la, .int .i64 m.de, .int .i64 cp] 29)).alloc (.cells #[.int .i64 oB, .int .i64 oM, .int .i64 vB, .int .i64 vM, .slice a1 n1 c1, .slice a2 n2 c2] 45)) (b := w.heap.size + 1 + 1) (t := 31) (cs := #[.int .i64 dB, .int .i64 dM]) (by simp))
  have B0 := hid (Below.alloc (Below.alloc (Below.alloc (Below.refl w.heap.size w) (Nat.le_refl _) (.cells #[.int .i64 b.kp, .int .i64 b.ki, .int .i64 b.sh, .int .i64 b.lo, .int .i64 b.hi, .int .i64 b.rate, .int .i64 b.ga, .int .i64 b.la, .int .i64 b.de, .int .i64 m.kp, .int .i64 m.ki, .int .i64 m.sh, .int .i64 m.lo, .int .i64 m.hi, .int .i64 m.rate, .int .i64 m.ga, .int .i64 m.la, .int .i64 m.de, .int .i64 cp] 29)) (by simp) (.cells #[.int .i64 oB, .int .i64 oM, .int .i64 vB, .int .i64 vM, .slice a1 n1 c1, .slice a2 n2 c2] 45)) (by simp; omega) (.cells #[.int .i64 dB, .int .i64 dM] 31))
  generalize (((w.alloc (.cells #[.int .i64 b.kp, .int .i64 b.ki, .int .i64 b.sh, .int .i64 b.lo, .int .i64 b.hi, .int .i64 b.rate, .int .i64 b.ga, .int .i64 b.la, .int .i64 b.de, .int .i64 m.kp, .int .i64 m.ki, .int .i64 m.sh, .int .i64 m.lo, .int .i64 m.hi, .int .i64 m.rate, .int .i64 m.ga, .int .i64 m.la, .int .i64 m.de, .int .i64 cp] 29)).alloc (.cells #[.int .i64 oB, .int .i64 oM, .int .i64 vB, .int .i64 vM, .slice a1 n1 c1, .slice a2 n2 c2] 45)).alloc (.cells #[.int .i64 dB, .int .i64 dM] 31)) = wa at W0 X0 E0 B0 ⊢
  go_wp2_with (refine wpList_load_blk2 (t := 45) rfl rfl rfl Try.underlying45 rfl (by kernel_rfl) X0.out ?_)
  refine (small_any oB oM vB vM a1 a2 n1 n2 c1 c2 _ hl1 hl2).mono ?_
  rintro e y1 ⟨rfl, hb⟩
  have W1 := hid (Blk.below W0.out hb W0.out.lt)
  have X1 := hid (Blk.below X0.out hb X0.out.lt)
  have E1 := hid (Blk.below E0.out hb E0.out.lt)
  have B1 := hid (B0.out.trans (hb.mono B0.out.size))
  clear hb
  by_cases hf : n1 ≤ 520 ∧ n2 ≤ 520
  rotate_left
  · have hf2 : (decide (n1 ≤ 520) && decide (n2 ≤ 520)) = false := by simp; omega
    rw [hf2]
    clear hf hf2
    go_wp2_with fail
    refine (awake_any _).mono ?_
    rintro e yz ⟨rfl, hb⟩
    go_wp2
    go_ret
    exact ⟨rfl, B1.out.trans (hb.mono B1.out.size)⟩

  have hf2 : (decide (n1 ≤ 520) && decide (n2 ≤ 520)) = true := by simp; omega
  obtain ⟨hf3, hf4⟩ := hf
  rw [hf2]
  clear hf2
  have cX := X1.out.cell
  by_cases hn : 0 < n1 ∧ n2 = n1
  rotate_left
  · have hn2 : n1 = 0 ∨ (n1 ≠ 0 ∧ n2 ≠ n1) := by omega
    clear hn
    rcases hn2 with hn | ⟨hn, hn2⟩
    · have hz : ((n1 : Int) == 0) = true := by simp [hn]
      go_wp2_with fail
      refine (awake_any _).mono ?_
      rintro e yz ⟨rfl, hb⟩
      go_wp2
      go_ret
      exact ⟨rfl, B1.out.trans (hb.mono B1.out.size)⟩

    · have hz : ((n1 : Int) == 0) = false := by simp; omega
      have hz2 : ((n2 : Int) != n1) = true := by simp; omega
      go_wp2_with fail
      refine (awake_any _).mono ?_
      rintro e yz ⟨rfl, hb⟩
      go_wp2
      go_ret
      exact ⟨rfl, B1.out.trans (hb.mono B1.out.size)⟩

  obtain ⟨hn0, hn⟩ := hn
  obtain rfl : n1 = n2 := hn.symm
  have hz : ((n1 : Int) == 0) = false := by simp; omega
  go_upto_region 3 with fail
  clear cX
  obtain ⟨p, o, s0, v0, rfl, hp, hs0, hcell0⟩ := cells_at R1.out TT1.out N1.out (k := 0) hn0
  have F0 : Hid (∀ W, Below w.heap.size w W → W.cell? ⟨p, o, none⟩ = some (.int .i64 s0)) := hid (fun W hW => by have := (hcell0 W hW).1; rwa [Nat.zero_mul, Nat.add_zero] at this)
  clear hcell0 hs0
  refine wp_region_hand (fun w' => Blk w' (w.heap.size + 1) 45 #[.int .i64 oB, .int .i64 oM, .int .i64 vB, .int .i64 vM, .slice (some ⟨p, o, none⟩) n1 c1, .slice a2 n1 c2] ∧ w'.cell? ⟨p, o, none⟩ = some (.int .i64 s0)) (by kernel_rfl) ?_
  simp only [List.length_cons, List.length_nil, Nat.zero_add, Nat.reduceAdd]
  have hS : Blk y1.drew (w.heap.size + 1) 45 #[.int .i64 oB, .int .i64 oM, .int .i64 vB, .int .i64 vM, .slice (some ⟨p, o, none⟩) n1 c1, .slice a2 n1 c2] ∧ y1.drew.cell? ⟨p, o, none⟩ = some (.int .i64 s0) := ⟨X1.out, F0.out _ (Below.drew B1.out)⟩
  refine take_at (i := 0) (v := ?_) rfl rfl (by kernel_rfl) (by kernel_rfl) (by kernel_rfl) (fun _ _ _ h => h) (Or.inl ⟨by rfl, ?_⟩) hS ?_
  rotate_left
  · intro w hSw; (try dsimp only at hSw); go_simp; try with_reducible rfl
  try simp only [List.setIfInBounds_toArray, List.set_cons_zero, List.set_cons_succ]
  refine take_at (i := 1) (v := ?_) rfl rfl (by kernel_rfl) (by kernel_rfl) (by kernel_rfl) (fun _ _ _ h => h) (Or.inl ⟨by rfl, ?_⟩) hS ?_
  rotate_left
  · intro wi hSw; have ci0 := hSw.1.cell; go_simp; try with_reducible rfl
  try simp only [List.setIfInBounds_toArray, List.set_cons_zero, List.set_cons_succ]
  refine take_at (i := 2) (v := ?_) rfl rfl (by kernel_rfl) (by kernel_rfl) (by kernel_rfl) (fun _ _ _ h => h) (Or.inl ⟨by rfl, ?_⟩) hS ?_
  rotate_left
  · intro w hSw; (try dsimp only at hSw); go_simp; try with_reducible rfl
  try simp only [List.setIfInBounds_toArray, List.set_cons_zero, List.set_cons_succ]
  refine take_at (i := 3) (v := ?_) rfl rfl (by kernel_rfl) (by kernel_rfl) (by kernel_rfl) (fun _ _ _ h => h) (Or.inl ⟨by rfl, ?_⟩) hS ?_
  rotate_left
  · intro w hSw; (try dsimp only at hSw); go_simp; try with_reducible rfl
  try simp only [List.setIfInBounds_toArray, List.set_cons_zero, List.set_cons_succ]
  refine take_at (i := 4) (v := ?_) rfl rfl (by kernel_rfl) (by kernel_rfl) (by kernel_rfl) (fun _ _ _ h => h) (Or.inl ⟨by rfl, ?_⟩) hS ?_
  rotate_left
  · intro wi hSw; have ci0 := hSw.2; go_simp; try with_reducible rfl
  try simp only [List.setIfInBounds_toArray, List.set_cons_zero, List.set_cons_succ]
  refine take_at (i := 5) (v := ?_) rfl rfl (by kernel_rfl) (by kernel_rfl) (by kernel_rfl) (fun _ _ _ h => h) (Or.inl ⟨by rfl, ?_⟩) hS ?_
  rotate_left
  · intro w hSw; (try dsimp only at hSw); go_simp; try with_reducible rfl
  try simp only [List.setIfInBounds_toArray, List.set_cons_zero, List.set_cons_succ]
  refine take_at (i := 6) (v := ?_) rfl rfl (by kernel_rfl) (by kernel_rfl) (by kernel_rfl) (fun _ _ _ h => h) (Or.inl ⟨by rfl, ?_⟩) hS ?_
  rotate_left
  · intro wi hSw; have ci0 := hSw.1.cell; go_simp; try with_reducible rfl
  try simp only [List.setIfInBounds_toArray, List.set_cons_zero, List.set_cons_succ]
  refine take_at (i := 7) (v := ?_) rfl rfl (by kernel_rfl) (by kernel_rfl) (by kernel_rfl) (fun _ _ _ h => h) (Or.inl ⟨by rfl, ?_⟩) hS ?_
  rotate_left
  · intro w hSw; (try dsimp only at hSw); go_simp; try with_reducible rfl
  try simp only [List.setIfInBounds_toArray, List.set_cons_zero, List.set_cons_succ]
  refine take_at (i := 8) (v := ?_) rfl rfl (by kernel_rfl) (by kernel_rfl) (by kernel_rfl) (fun _ _ _ h => h) (Or.inl ⟨by rfl, ?_⟩) hS ?_
  rotate_left
  · intro w hSw; (try dsimp only at hSw); go_simp; try with_reducible rfl
  try simp only [List.setIfInBounds_toArray, List.set_cons_zero, List.set_cons_succ]
  refine take_at (i := 9) (v := ?_) rfl rfl (by kernel_rfl) (by kernel_rfl) (by kernel_rfl) (fun _ _ _ h => h) (Or.inl ⟨by rfl, ?_⟩) hS ?_
  rotate_left
  · intro wi hSw; have ci0 := hSw.2; go_simp; try with_reducible rfl
  try simp only [List.setIfInBounds_toArray, List.set_cons_zero, List.set_cons_succ]
  refine take_at (i := 10) (v := ?_) rfl rfl (by kernel_rfl) (by kernel_rfl) (by kernel_rfl) (fun _ _ _ h => h) (Or.inl ⟨by rfl, ?_⟩) hS ?_
  rotate_left
  · intro w hSw; (try dsimp only at hSw); go_simp; try with_reducible rfl
  try simp only [List.setIfInBounds_toArray, List.set_cons_zero, List.set_cons_succ]
  refine wpAnyH_ready (rs := [11]) (by kernel_rfl) (by simp) ?_
  refine AllReadyH.cons rfl (fun K hK => ?_) AllReadyH.nil
  go_simp
  refine hK.out _ _ ⟨Blk.alloc X1.out _, F0.out _ (Below.alloc (Below.drew B1.out) B1.out.size _)⟩ (fun hS => ?_)
  clear hK K
  try simp only [Act.put, List.setIfInBounds_toArray, List.set_cons_zero, List.set_cons_succ]
  refine wpAnyH_ready (rs := [12]) (by kernel_rfl) (by simp) ?_
  refine AllReadyH.cons rfl (fun K hK => ?_) AllReadyH.nil
  refine step_store_blk (e := 54) (cs0 := #[.int .i64 0, .int .i64 0]) (cs := #[.int .i64 s0, .int .i64 s0]) (Blk.at_new y1.drew (b := y1.heap.size) rfl) (by kernel_rfl) rfl (by simp [Value.oneCell']) rfl rfl rfl rfl ?_
  have l1 := W1.out.lt
  have l2 := X1.out.lt
  have l3 := E1.out.lt
  have G2 := hid (Blk.row (w := (y1.alloc (.cells #[.int .i64 0, .int .i64 0] 54)).drew) (Blk.at_new y1.drew (b := y1.heap.size) (t := 54) (cs := #[.int .i64 0, .int .i64 0]) rfl) #[.int .i64 s0, .int .i64 s0])
  have W2 := hid (Blk.rowOther (w := (y1.alloc (.cells #[.int .i64 0, .int .i64 0] 54)).drew) (g := y1.heap.size) (Blk.alloc W1.out _) (by omega) #[.int .i64 s0, .int .i64 s0])
  have X2 := hid (Blk.rowOther (w := (y1.alloc (.cells #[.int .i64 0, .int .i64 0] 54)).drew) (g := y1.heap.size) (Blk.alloc X1.out _) (by omega) #[.int .i64 s0, .int .i64 s0])
  have E2 := hid (Blk.rowOther (w := (y1.alloc (.cells #[.int .i64 0, .int .i64 0] 54)).drew) (g := y1.heap.size) (Blk.alloc E1.out _) (by omega) #[.int .i64 s0, .int .i64 s0])
  have B2 := hid (Below.row (w := (y1.alloc (.cells #[.int .i64 0, .int .i64 0] 54)).drew) (g := y1.heap.size) (Below.drew (Below.alloc B1.out B1.out.size _)) B1.out.size #[.int .i64 s0, .int .i64 s0])
  clear hS
  refine hK.out _ _ ⟨X2.out, F0.out _ B2.out⟩ (fun hS => ?_)
  clear hK K
  try simp only [Act.put, List.setIfInBounds_toArray, List.set_cons_zero, List.set_cons_succ]
  refine wpAnyH_done (by kernel_rfl) ?_ _
  simp only [Sure, Exit.then]
  clear hS
  generalize hy2 : ((y1.alloc (.cells #[.int .i64 0, .int .i64 0] 54)).drew.setRow y1.heap.size #[.int .i64 s0, .int .i64 s0]) = y2 at G2 W2 X2 E2 B2 ⊢
  obtain ⟨g, hg⟩ : ∃ g, y1.heap.size = g := ⟨_, rfl⟩
  have NG : Hid (w.heap.size + 1 < g ∧ w.heap.size + 1 + 1 < g) := hid ⟨by omega, by omega⟩
  rw [hg] at G2 ⊢
  clear hg hy2 l1 l2 l3
  go_wp2
  go_loopw [8] (fun i wr => ∃ (k : Nat) (f t : Int), k ≤ n1 ∧ i = .int .i64 k ∧ (∀ j r, j < k → S[j]? = some r → f ≤ r.getD 0 0 ∧ r.getD 0 0 ≤ t) ∧ (∀ j r, j < k → D[j]? = some r → (-dB ≤ r.getD 0 0 ∧ r.getD 0 0 ≤ dB) ∧ (-dM ≤ r.getD 1 0 ∧ r.getD 1 0 ≤ dM)) ∧ Blk wr w.heap.size 29 #[.int .i64 b.kp, .int .i64 b.ki, .int .i64 b.sh, .int .i64 b.lo, .int .i64 b.hi, .int .i64 b.rate, .int .i64 b.ga, .int .i64 b.la, .int .i64 b.de, .int .i64 m.kp, .int .i64 m.ki, .int .i64 m.sh, .int .i64 m.lo, .int .i64 m.hi, .int .i64 m.rate, .int .i64 m.ga, .int .i64 m.la, .int .i64 m.de, .int .i64 cp] ∧ Blk wr (w.heap.size + 1) 45 #[.int .i64 oB, .int .i64 oM, .int .i64 vB, .int .i64 vM, .slice (some ⟨p, o, none⟩) n1 c1, .slice a2 n1 c2] ∧ Blk wr (w.heap.size + 1 + 1) 31 #[.int .i64 dB, .int .i64 dM] ∧ Blk wr g 54 #[.int .i64 f, .int .i64 t] ∧ Below w.heap.size w wr) (fun i _ => n1 - (intOf i).toNat)
  case atStart => exact ⟨0, s0, s0, Nat.zero_le _, rfl, fun j r hj => by omega, fun j r hj => by omega, W2.out, X2.out, E2.out, G2.out, B2.out⟩
  case round =>
    obtain ⟨k, f, t, hk, rfl, hs, hd, hW, hX, hE, hG, hbel⟩ := hrel
    have HS := hid hs
    have HD := hid hd
    have W3 := hid hW
    have X3 := hid hX
    have E3 := hid hE
    have G3 := hid hG
    have B3 := hid hbel
    have cX := hX.cell
    have cE := hE.cell
    clear hs hd hW hX hE hG hbel
    by_cases hlt : k < n1
    · obtain ⟨p2, o2, d0, d1, rfl, hp2, hd2, hcell2⟩ := cells_at R2.out TT2.out N2.out (k := k) (by omega)
      obtain ⟨p', o', s, v, hA, hp', hs2, hcell1⟩ := cells_at R1.out TT1.out N1.out (k := k) hlt
      injection hA with hA
      injection hA with hA1 hA2 _
      subst hA1 hA2
      have F1 : Hid (∀ W, Below w.heap.size w W → W.cell? ⟨p, o + k * 2, none⟩ = some (.int .i64 s)) := hid (fun W hW => (hcell1 W hW).1)
      obtain ⟨e1, e2⟩ := hcell2 _ B3.out
      go_upto_region 8 with fail
      have W4 := hid (Blk.alloc W3.out (.cells #[.int .i64 d0, .int .i64 d1] 31))
      have X4 := hid (Blk.alloc X3.out (.cells #[.int .i64 d0, .int .i64 d1] 31))
      have E4 := hid (Blk.alloc E3.out (.cells #[.int .i64 d0, .int .i64 d1] 31))
      have G4 := hid (Blk.alloc G3.out (.cells #[.int .i64 d0, .int .i64 d1] 31))
      have Y4 := hid (Blk.at_new wr (b := wr.heap.size) (t := 31) (cs := #[.int .i64 d0, .int .i64 d1]) rfl)
      have B4 := hid (Below.alloc B3.out B3.out.size (.cells #[.int .i64 d0, .int .i64 d1] 31))
      generalize (wr.alloc (.cells #[.int .i64 d0, .int .i64 d1] 31)) = y4 at W4 X4 E4 G4 Y4 B4 ⊢
      clear e1 e2 cX cE
      have cE := E4.out.cell
      have cY := Y4.out.cell
      have HS2 := hid hs2
      have HD2 := hid hd2
      clear hcell1 hcell2 hs2 hd2
      by_cases hin : (-dB ≤ d0 ∧ d0 ≤ dB ∧ -65536 ≤ d0) ∧ (-dM ≤ d1 ∧ d1 ≤ dM ∧ -65536 ≤ d1)
      rotate_left
      · have hq : dB < d0 ∨ (d0 ≤ dB ∧ d0 < -65536) ∨ (d0 ≤ dB ∧ -65536 ≤ d0 ∧ dB < -d0) ∨ (d0 ≤ dB ∧ -65536 ≤ d0 ∧ -d0 ≤ dB ∧ dM < d1) ∨ (d0 ≤ dB ∧ -65536 ≤ d0 ∧ -d0 ≤ dB ∧ d1 ≤ dM ∧ d1 < -65536) ∨ (d0 ≤ dB ∧ -65536 ≤ d0 ∧ -d0 ≤ dB ∧ d1 ≤ dM ∧ -65536 ≤ d1 ∧ dM < -d1) := by omega
        clear hin
        rcases hq with h | ⟨h, k1⟩ | ⟨h, k1, k2⟩ | ⟨h, k1, k2, k3⟩ | ⟨h, k1, k2, k3, k4⟩ | ⟨h, k1, k2, k3, k4, k5⟩
        all_goals
          go_wp2_with (go_at_call 14; refine (awake_any _).mono ?_; rintro e v9 ⟨rfl, hb⟩)
          go_ret
          exact ⟨rfl, B4.out.trans (hb.mono B4.out.size)⟩
      obtain ⟨⟨i1, i2, i3⟩, i4, i5, i6⟩ := hin
      go_upto_region 10 with fail
      refine wp_region_last (fun w' => Blk w' (w.heap.size + 1) 45 #[.int .i64 oB, .int .i64 oM, .int .i64 vB, .int .i64 vM, .slice (some ⟨p, o, none⟩) n1 c1, .slice (some ⟨p2, o2, none⟩) n1 c2] ∧ Blk w' g 54 #[.int .i64 f, .int .i64 t] ∧ w'.cell? ⟨p, o + k * 2, none⟩ = some (.int .i64 s)) (by kernel_rfl) (by kernel_rfl) ?_
      simp only [dullLast, dullOp, List.length_cons, List.length_nil, Nat.zero_add, Nat.reduceAdd]
      have hS : Blk y4.drew (w.heap.size + 1) 45 #[.int .i64 oB, .int .i64 oM, .int .i64 vB, .int .i64 vM, .slice (some ⟨p, o, none⟩) n1 c1, .slice (some ⟨p2, o2, none⟩) n1 c2] ∧ Blk y4.drew g 54 #[.int .i64 f, .int .i64 t] ∧ y4.drew.cell? ⟨p, o + k * 2, none⟩ = some (.int .i64 s) := ⟨X4.out, G4.out, F1.out _ (Below.drew B4.out)⟩
      refine take_at (i := 0) (v := ?_) rfl rfl (by kernel_rfl) (by kernel_rfl) (by kernel_rfl) (fun _ _ _ h => h) (Or.inl ⟨by rfl, ?_⟩) hS ?_
      rotate_left
      · intro w hSw; (try dsimp only at hSw); go_simp; try with_reducible rfl
      try simp only [List.setIfInBounds_toArray, List.set_cons_zero, List.set_cons_succ]
      refine take_at (i := 1) (v := ?_) rfl rfl (by kernel_rfl) (by kernel_rfl) (by kernel_rfl) (fun _ _ _ h => h) (Or.inl ⟨by rfl, ?_⟩) hS ?_
      rotate_left
      · intro wi hSw; have ci0 := hSw.2.1.cell; go_simp; try with_reducible rfl
      try simp only [List.setIfInBounds_toArray, List.set_cons_zero, List.set_cons_succ]
      refine take_at (i := 2) (v := ?_) rfl rfl (by kernel_rfl) (by kernel_rfl) (by kernel_rfl) (fun _ _ _ h => h) (Or.inl ⟨by rfl, ?_⟩) hS ?_
      rotate_left
      · intro w hSw; (try dsimp only at hSw); go_simp; try with_reducible rfl
      try simp only [List.setIfInBounds_toArray, List.set_cons_zero, List.set_cons_succ]
      refine take_at (i := 3) (v := ?_) rfl rfl (by kernel_rfl) (by kernel_rfl) (by kernel_rfl) (fun _ _ _ h => h) (Or.inl ⟨by rfl, ?_⟩) hS ?_
      rotate_left
      · intro wi hSw; have ci0 := hSw.1.cell; go_simp; try with_reducible rfl
      try simp only [List.setIfInBounds_toArray, List.set_cons_zero, List.set_cons_succ]
      refine take_at (i := 4) (v := ?_) rfl rfl (by kernel_rfl) (by kernel_rfl) (by kernel_rfl) (fun _ _ _ h => h) (Or.inl ⟨by rfl, ?_⟩) hS ?_
      rotate_left
      · intro w hSw; (try dsimp only at hSw); go_simp; try with_reducible rfl
      try simp only [List.setIfInBounds_toArray, List.set_cons_zero, List.set_cons_succ]
      refine take_at (i := 5) (v := ?_) rfl rfl (by kernel_rfl) (by kernel_rfl) (by kernel_rfl) (fun _ _ _ h => h) (Or.inl ⟨by rfl, ?_⟩) hS ?_
      rotate_left
      · intro w hSw; (try dsimp only at hSw); go_simp; try with_reducible rfl
      try simp only [List.setIfInBounds_toArray, List.set_cons_zero, List.set_cons_succ]
      refine take_at (i := 6) (v := ?_) rfl rfl (by kernel_rfl) (by kernel_rfl) (by kernel_rfl) (fun _ _ _ h => h) (Or.inl ⟨by rfl, ?_⟩) hS ?_
      rotate_left
      · intro w hSw; (try dsimp only at hSw); go_simp; try with_reducible rfl
      try simp only [List.setIfInBounds_toArray, List.set_cons_zero, List.set_cons_succ]
      refine take_at (i := 7) (v := ?_) rfl rfl (by kernel_rfl) (by kernel_rfl) (by kernel_rfl) (fun _ _ _ h => h) (Or.inl ⟨by rfl, ?_⟩) hS ?_
      rotate_left
      · intro wi hSw; have ci0 := hSw.2.2; go_simp; try with_reducible rfl
      try simp only [List.setIfInBounds_toArray, List.set_cons_zero, List.set_cons_succ]
      refine take_at (i := 8) (v := ?_) rfl rfl (by kernel_rfl) (by kernel_rfl) (by kernel_rfl) (fun _ _ _ h => h) (Or.inl ⟨by rfl, ?_⟩) hS ?_
      rotate_left
      · intro w hSw; (try dsimp only at hSw); go_simp; try with_reducible rfl
      try simp only [List.setIfInBounds_toArray, List.set_cons_zero, List.set_cons_succ]
      refine take_at (i := 9) (v := ?_) rfl rfl (by kernel_rfl) (by kernel_rfl) (by kernel_rfl) (fun _ _ _ h => h) (Or.inl ⟨by rfl, ?_⟩) hS ?_
      rotate_left
      · intro w hSw; (try dsimp only at hSw); go_simp; try with_reducible rfl
      try simp only [List.setIfInBounds_toArray, List.set_cons_zero, List.set_cons_succ]
      refine take_at (i := 10) (v := ?_) rfl rfl (by kernel_rfl) (by kernel_rfl) (by kernel_rfl) (fun _ _ _ h => h) (Or.inl ⟨by rfl, ?_⟩) hS ?_
      rotate_left
      · intro wi hSw; have ci0 := hSw.2.1.cell; go_simp; try with_reducible rfl
      try simp only [List.setIfInBounds_toArray, List.set_cons_zero, List.set_cons_succ]
      refine take_at (i := 11) (v := ?_) rfl rfl (by kernel_rfl) (by kernel_rfl) (by kernel_rfl) (fun _ _ _ h => h) (Or.inl ⟨by rfl, ?_⟩) hS ?_
      rotate_left
      · intro w hSw; (try dsimp only at hSw); go_simp; try with_reducible rfl
      try simp only [List.setIfInBounds_toArray, List.set_cons_zero, List.set_cons_succ]
      refine take_at (i := 12) (v := ?_) rfl rfl (by kernel_rfl) (by kernel_rfl) (by kernel_rfl) (fun _ _ _ h => h) (Or.inl ⟨by rfl, ?_⟩) hS ?_
      rotate_left
      · intro wi hSw; have ci0 := hSw.1.cell; go_simp; try with_reducible rfl
      try simp only [List.setIfInBounds_toArray, List.set_cons_zero, List.set_cons_succ]
      refine take_at (i := 13) (v := ?_) rfl rfl (by kernel_rfl) (by kernel_rfl) (by kernel_rfl) (fun _ _ _ h => h) (Or.inl ⟨by rfl, ?_⟩) hS ?_
      rotate_left
      · intro w hSw; (try dsimp only at hSw); go_simp; try with_reducible rfl
      try simp only [List.setIfInBounds_toArray, List.set_cons_zero, List.set_cons_succ]
      refine take_at (i := 14) (v := ?_) rfl rfl (by kernel_rfl) (by kernel_rfl) (by kernel_rfl) (fun _ _ _ h => h) (Or.inl ⟨by rfl, ?_⟩) hS ?_
      rotate_left
      · intro w hSw; (try dsimp only at hSw); go_simp; try with_reducible rfl
      try simp only [List.setIfInBounds_toArray, List.set_cons_zero, List.set_cons_succ]
      refine take_at (i := 15) (v := ?_) rfl rfl (by kernel_rfl) (by kernel_rfl) (by kernel_rfl) (fun _ _ _ h => h) (Or.inl ⟨by rfl, ?_⟩) hS ?_
      rotate_left
      · intro w hSw; (try dsimp only at hSw); go_simp; try with_reducible rfl
      try simp only [List.setIfInBounds_toArray, List.set_cons_zero, List.set_cons_succ]
      refine take_at (i := 16) (v := ?_) rfl rfl (by kernel_rfl) (by kernel_rfl) (by kernel_rfl) (fun _ _ _ h => h) (Or.inl ⟨by rfl, ?_⟩) hS ?_
      rotate_left
      · intro wi hSw; have ci0 := hSw.2.2; go_simp; try with_reducible rfl
      try simp only [List.setIfInBounds_toArray, List.set_cons_zero, List.set_cons_succ]
      refine take_at (i := 17) (v := ?_) rfl rfl (by kernel_rfl) (by kernel_rfl) (by kernel_rfl) (fun _ _ _ h => h) (Or.inl ⟨by rfl, ?_⟩) hS ?_
      rotate_left
      · intro w hSw; (try dsimp only at hSw); go_simp; try with_reducible rfl
      try simp only [List.setIfInBounds_toArray, List.set_cons_zero, List.set_cons_succ]
      refine take_at (i := 18) (v := ?_) rfl rfl (by kernel_rfl) (by kernel_rfl) (by kernel_rfl) (fun _ _ _ h => h) (Or.inl ⟨by rfl, ?_⟩) hS ?_
      rotate_left
      · intro w hSw; (try dsimp only at hSw); go_simp; try with_reducible rfl
      try simp only [List.setIfInBounds_toArray, List.set_cons_zero, List.set_cons_succ]
      refine take_none (i := 19) (v := ?_) rfl rfl (by kernel_rfl) (by kernel_rfl) (by kernel_rfl) (fun _ _ _ h => h) (Or.inl ⟨by rfl, ?_⟩) hS ?_
      rotate_left
      · intro w hSw; go_simp; try with_reducible rfl
      refine wpAnyH_done (by kernel_rfl) ?_ _
      simp only [LastQ, List.length_cons, List.length_nil, Nat.zero_add, Nat.reduceAdd, Nat.reduceSub, List.drop_succ_cons, List.drop_zero]
      have ng := NG.out
      have G5 := hid (Blk.row (w := y4.drew) G4.out #[.int .i64 (min f s), .int .i64 (max t s)])
      have W5 := hid (Blk.rowOther (w := y4.drew) (g := g) W4.out (by omega) #[.int .i64 (min f s), .int .i64 (max t s)])
      have X5 := hid (Blk.rowOther (w := y4.drew) (g := g) X4.out (by omega) #[.int .i64 (min f s), .int .i64 (max t s)])
      have E5 := hid (Blk.rowOther (w := y4.drew) (g := g) E4.out (by omega) #[.int .i64 (min f s), .int .i64 (max t s)])
      have B5 := hid (Below.row (g := g) (Below.drew B4.out) (by omega) #[.int .i64 (min f s), .int .i64 (max t s)])
      clear hS ng cE cY
      go_wp2_with (refine wpList_store_blk2 (b := g) (t := 54) (e := 54) (cs0 := #[.int .i64 f, .int .i64 t]) (cs := #[.int .i64 (min f s), .int .i64 (max t s)]) rfl rfl rfl rfl (by kernel_rfl) rfl (by simp [Value.oneCell']) (Blk.drew G4.out) ?_)
      go_roundw
      case rel =>
        refine ⟨k + 1, min f s, max t s, by omega, by go_num, fun j r hj hr => ?_, fun j r hj hr => ?_, W5.out, X5.out, E5.out, G5.out, B5.out⟩
        · by_cases hjk : j = k
          · subst hjk
            rw [HS2.out] at hr
            injection hr with hr
            subst hr
            show min f s ≤ s ∧ s ≤ max t s
            omega
          · have := HS.out j r (by omega) hr
            omega
        · by_cases hjk : j = k
          · subst hjk
            rw [HD2.out] at hr
            injection hr with hr
            subst hr
            exact ⟨⟨i1, i2⟩, i4, i5⟩
          · exact HD.out j r (by omega) hr
      case measure => simp [intOf]; omega
    · obtain rfl : k = n1 := by omega
      have hs0 : ∀ x ∈ col 0 S, f ≤ x ∧ x ≤ t := fun x hx => by
        obtain ⟨j, r, hj, hr, rfl⟩ := col_mem hx
        exact HS.out j r (by rw [N1.out]; exact hj) hr
      have hd0 : ∀ x ∈ col 0 D, -dB ≤ x ∧ x ≤ dB := fun x hx => by
        obtain ⟨j, r, hj, hr, rfl⟩ := col_mem hx
        exact (HD.out j r (by rw [N2.out]; exact hj) hr).1
      have hd1 : ∀ x ∈ col 1 D, -dM ≤ x ∧ x ≤ dM := fun x hx => by
        obtain ⟨j, r, hj, hr, rfl⟩ := col_mem hx
        exact (HD.out j r (by rw [N2.out]; exact hj) hr).2
      obtain ⟨P1, hP1⟩ : ∃ P, wl1 b m cp f t dB dM = P := ⟨_, rfl⟩
      obtain ⟨P2, hP2⟩ : ∃ P, wl2 b m cp f t dB dM = P := ⟨_, rfl⟩
      obtain ⟨P3, hP3⟩ : ∃ P, wl3 b m cp f t dB dM = P := ⟨_, rfl⟩
      obtain ⟨P4, hP4⟩ : ∃ P, wl4 b m cp f t dB dM = P := ⟨_, rfl⟩
      obtain ⟨er, her⟩ : ∃ P, wlErr b m cp f t dB dM = P := ⟨_, rfl⟩
      have VI : Hid (er = 0 → wErr b m cp oB oM vB vM S D = 0 → (P1 ≤ vB ∧ vB ≤ P2) → (P3 ≤ vM ∧ vM ≤ P4) → (∀ x ∈ bVals b oB vB S D, P1 ≤ x ∧ x ≤ P2) ∧ (∀ x ∈ mVals b m cp oB oM vB vM S D, P3 ≤ x ∧ x ≤ P4)) := hid (fun hl hr hB hM => by
        have := wlim_plain (her.trans hl) hr hs0 hd0 hd1 (by rw [hP1, hP2]; exact hB) (by rw [hP3, hP4]; exact hM)
        rw [hP1, hP2, hP3, hP4] at this
        exact this)
      have LC : Hid (∀ W : World, Calls Try.prog 20 #[.agg #[.int .i64 b.kp, .int .i64 b.ki, .int .i64 b.sh, .int .i64 b.lo, .int .i64 b.hi, .int .i64 b.rate, .int .i64 b.ga, .int .i64 b.la, .int .i64 b.de, .int .i64 m.kp, .int .i64 m.ki, .int .i64 m.sh, .int .i64 m.lo, .int .i64 m.hi, .int .i64 m.rate, .int .i64 m.ga, .int .i64 m.la, .int .i64 m.de, .int .i64 cp], .agg #[.int .i64 f, .int .i64 t], .agg #[.int .i64 dB, .int .i64 dM]] W fun e w' => e = .returned (.tuple #[.agg #[.int .i64 P1, .int .i64 P2], .agg #[.int .i64 P3, .int .i64 P4], .int .i64 er]) ∧ Below W.heap.size W w') := hid (fun W => by
        have := wlimits_any b m cp f t dB dM W
        unfold WLPost at this
        rw [hP1, hP2, hP3, hP4, her] at this
        exact this)
      clear hs0 hd0 hd1 hP1 hP2 hP3 hP4 her HS HD
      go_upto_region 11 with fail
      clear cX cE
      go_wp2_with (first
        | (refine wpList_load_blk2 (t := 29) rfl rfl rfl Try.underlying29 rfl (by kernel_rfl) W3.out ?_)
        | (refine wpList_load_blk2 (t := 54) rfl rfl rfl Try.underlying54 rfl (by kernel_rfl) G3.out ?_)
        | (refine wpList_load_blk2 (t := 31) rfl rfl rfl Try.underlying31 rfl (by kernel_rfl) E3.out ?_))
      refine (LC.out _).mono ?_
      rintro e y5 ⟨rfl, hb⟩
      have W5 := hid (Blk.below W3.out hb W3.out.lt)
      have X5 := hid (Blk.below X3.out hb X3.out.lt)
      have B5 := hid (B3.out.trans (hb.mono B3.out.size))
      clear hb
      go_upto_region 12 with fail
      have P6 := hid (Blk.alloc (Blk.at_new y5 (b := y5.heap.size) (t := 54) (cs := #[.int .i64 P1, .int .i64 P2]) rfl) (.cells #[.int .i64 P3, .int .i64 P4] 54))
      have Q6 := hid (Blk.at_new (y5.alloc (.cells #[.int .i64 P1, .int .i64 P2] 54)) (b := y5.heap.size + 1) (t := 54) (cs := #[.int .i64 P3, .int .i64 P4]) (by simp))
      have W6 := hid (Blk.alloc (Blk.alloc W5.out (.cells #[.int .i64 P1, .int .i64 P2] 54)) (.cells #[.int .i64 P3, .int .i64 P4] 54))
      have X6 := hid (Blk.alloc (Blk.alloc X5.out (.cells #[.int .i64 P1, .int .i64 P2] 54)) (.cells #[.int .i64 P3, .int .i64 P4] 54))
      have B6 := hid (Below.alloc (Below.alloc B5.out B5.out.size (.cells #[.int .i64 P1, .int .i64 P2] 54)) (Nat.le_trans B5.out.size (by simp)) (.cells #[.int .i64 P3, .int .i64 P4] 54))
      generalize ((y5.alloc (.cells #[.int .i64 P1, .int .i64 P2] 54)).alloc (.cells #[.int .i64 P3, .int .i64 P4] 54)) = y6 at P6 Q6 W6 X6 B6 ⊢
      obtain ⟨q, hq⟩ : ∃ q, y5.heap.size = q := ⟨_, rfl⟩
      rw [hq] at P6 Q6 ⊢
      clear hq
      go_upto_region 12 with fail
      refine wp_region_hand (fun w' => Blk w' w.heap.size 29 #[.int .i64 b.kp, .int .i64 b.ki, .int .i64 b.sh, .int .i64 b.lo, .int .i64 b.hi, .int .i64 b.rate, .int .i64 b.ga, .int .i64 b.la, .int .i64 b.de, .int .i64 m.kp, .int .i64 m.ki, .int .i64 m.sh, .int .i64 m.lo, .int .i64 m.hi, .int .i64 m.rate, .int .i64 m.ga, .int .i64 m.la, .int .i64 m.de, .int .i64 cp] ∧ Blk w' (w.heap.size + 1) 45 #[.int .i64 oB, .int .i64 oM, .int .i64 vB, .int .i64 vM, .slice (some ⟨p, o, none⟩) k c1, .slice a2 k c2]) (by kernel_rfl) ?_
      simp only [List.length_cons, List.length_nil, Nat.zero_add, Nat.reduceAdd]
      have hS : Blk y6.drew w.heap.size 29 #[.int .i64 b.kp, .int .i64 b.ki, .int .i64 b.sh, .int .i64 b.lo, .int .i64 b.hi, .int .i64 b.rate, .int .i64 b.ga, .int .i64 b.la, .int .i64 b.de, .int .i64 m.kp, .int .i64 m.ki, .int .i64 m.sh, .int .i64 m.lo, .int .i64 m.hi, .int .i64 m.rate, .int .i64 m.ga, .int .i64 m.la, .int .i64 m.de, .int .i64 cp] ∧ Blk y6.drew (w.heap.size + 1) 45 #[.int .i64 oB, .int .i64 oM, .int .i64 vB, .int .i64 vM, .slice (some ⟨p, o, none⟩) k c1, .slice a2 k c2] := ⟨W6.out, X6.out⟩
      refine take_at (i := 0) (v := .agg #[.int .i64 b.kp, .int .i64 b.ki, .int .i64 b.sh, .int .i64 b.lo, .int .i64 b.hi, .int .i64 b.rate, .int .i64 b.ga, .int .i64 b.la, .int .i64 b.de, .int .i64 m.kp, .int .i64 m.ki, .int .i64 m.sh, .int .i64 m.lo, .int .i64 m.hi, .int .i64 m.rate, .int .i64 m.ga, .int .i64 m.la, .int .i64 m.de, .int .i64 cp]) rfl rfl (by kernel_rfl) (by kernel_rfl) (by kernel_rfl) (fun _ _ _ h => h) (Or.inl ⟨by rfl, fun wi hSw => exec_loads (p := .pointer (some ⟨w.heap.size, 0, none⟩)) rfl rfl (load_blk hSw.1 Try.underlying29 rfl (by kernel_rfl))⟩) hS ?_
      try simp only [List.setIfInBounds_toArray, List.set_cons_zero, List.set_cons_succ]
      refine take_at (i := 1) (v := .agg #[.int .i64 oB, .int .i64 oM, .int .i64 vB, .int .i64 vM, .slice (some ⟨p, o, none⟩) k c1, .slice a2 k c2]) rfl rfl (by kernel_rfl) (by kernel_rfl) (by kernel_rfl) (fun _ _ _ h => h) (Or.inl ⟨by rfl, fun wi hSw => exec_loads (p := .pointer (some ⟨w.heap.size + 1, 0, none⟩)) rfl rfl (load_blk hSw.2 Try.underlying45 rfl (by kernel_rfl))⟩) hS ?_
      try simp only [List.setIfInBounds_toArray, List.set_cons_zero, List.set_cons_succ]
      refine take_at (i := 3) (v := ?_) rfl rfl (by kernel_rfl) (by kernel_rfl) (by kernel_rfl) (fun _ _ _ h => h) (Or.inl ⟨by rfl, ?_⟩) hS ?_
      rotate_left
      · intro w hSw; (try dsimp only at hSw); go_simp; try with_reducible rfl
      try simp only [List.setIfInBounds_toArray, List.set_cons_zero, List.set_cons_succ]
      refine take_at (i := 4) (v := ?_) rfl rfl (by kernel_rfl) (by kernel_rfl) (by kernel_rfl) (fun _ _ _ h => h) (Or.inl ⟨by rfl, ?_⟩) hS ?_
      rotate_left
      · intro wi hSw; have ci0 := hSw.2.cell; go_simp; try with_reducible rfl
      try simp only [List.setIfInBounds_toArray, List.set_cons_zero, List.set_cons_succ]
      refine take_at (i := 5) (v := ?_) rfl rfl (by kernel_rfl) (by kernel_rfl) (by kernel_rfl) (fun _ _ _ h => h) (Or.inl ⟨by rfl, ?_⟩) hS ?_
      rotate_left
      · intro w hSw; (try dsimp only at hSw); go_simp; try with_reducible rfl
      try simp only [List.setIfInBounds_toArray, List.set_cons_zero, List.set_cons_succ]
      refine take_at (i := 6) (v := ?_) rfl rfl (by kernel_rfl) (by kernel_rfl) (by kernel_rfl) (fun _ _ _ h => h) (Or.inl ⟨by rfl, ?_⟩) hS ?_
      rotate_left
      · intro wi hSw; have ci0 := hSw.2.cell; go_simp; try with_reducible rfl
      try simp only [List.setIfInBounds_toArray, List.set_cons_zero, List.set_cons_succ]
      refine wpAnyH_ready (rs := [2]) (by kernel_rfl) (by simp) ?_
      refine AllReadyH.cons rfl (fun K hK => ?_) AllReadyH.nil
      go_simp
      (go_at_call 17; refine (start_any oB oM vB vM _ _ _ _ _ _ _).mono ?_; rintro e y7 ⟨rfl, hb⟩; have HB7 := hid (show Below y6.heap.size y6 y7 from by first | exact hb | exact (Below.drew (Below.refl _ _)).trans hb); have W7 := hid (Blk.below W6.out HB7.out W6.out.lt); have X7 := hid (Blk.below X6.out HB7.out X6.out.lt); have B7 := hid (B6.out.trans (HB7.out.mono B6.out.size)); clear hb hS)
      refine hK.out _ _ ⟨W7.out, X7.out⟩ (fun hS => ?_)
      clear hK K
      try simp only [Act.put, List.setIfInBounds_toArray, List.set_cons_zero, List.set_cons_succ]
      refine wpAnyH_ready (rs := [7]) (by kernel_rfl) (by simp) ?_
      refine AllReadyH.cons rfl (fun K hK => ?_) AllReadyH.nil
      go_simp
      (go_at_call 16; refine (wrun_any b m cp oB oM vB vM _ _ c1 c2 k k S D _ (R1.out.below (B7.out.mono (Nat.le_refl _))) (R2.out.below (B7.out.mono (Nat.le_refl _))) TT1.out TT2.out N1.out N2.out (by omega) (by omega)).mono ?_; rintro e y8 ⟨u, rfl, hu, hb⟩; have HB8 := hid (show Below y7.heap.size y7 y8 from by first | exact hb | exact (Below.drew (Below.refl _ _)).trans hb); have W8 := hid (Blk.below W7.out HB8.out W7.out.lt); have X8 := hid (Blk.below X7.out HB8.out X7.out.lt); have B8 := hid (B7.out.trans (HB8.out.mono B7.out.size)); obtain ⟨A, c, rfl, _, _⟩ := own_form hu; have RU := hid (Rds.own hu (S := Nn) (fun _ _ => id)); clear hu; clear hb hS)
      refine hK.out _ _ ⟨W8.out, X8.out⟩ (fun hS => ?_)
      clear hK K
      try simp only [Act.put, List.setIfInBounds_toArray, List.set_cons_zero, List.set_cons_succ]
      refine take_at (i := 8) (v := ?_) rfl rfl (by kernel_rfl) (by kernel_rfl) (by kernel_rfl) (fun _ _ _ h => h) (Or.inl ⟨by rfl, ?_⟩) hS ?_
      rotate_left
      · intro w hSw; (try dsimp only at hSw); go_simp; try with_reducible rfl
      try simp only [List.setIfInBounds_toArray, List.set_cons_zero, List.set_cons_succ]
      refine take_at (i := 9) (v := ?_) rfl rfl (by kernel_rfl) (by kernel_rfl) (by kernel_rfl) (fun _ _ _ h => h) (Or.inl ⟨by rfl, ?_⟩) hS ?_
      rotate_left
      · intro w hSw; (try dsimp only at hSw); go_simp; try with_reducible rfl
      try simp only [List.setIfInBounds_toArray, List.set_cons_zero, List.set_cons_succ]
      refine take_at (i := 10) (v := ?_) rfl rfl (by kernel_rfl) (by kernel_rfl) (by kernel_rfl) (fun _ _ _ h => h) (Or.inl ⟨by rfl, ?_⟩) hS ?_
      rotate_left
      · intro w hSw; (try dsimp only at hSw); go_simp; try with_reducible rfl
      try simp only [List.setIfInBounds_toArray, List.set_cons_zero, List.set_cons_succ]
      refine take_at (i := 11) (v := ?_) rfl rfl (by kernel_rfl) (by kernel_rfl) (by kernel_rfl) (fun _ _ _ h => h) (Or.inl ⟨by rfl, ?_⟩) hS ?_
      rotate_left
      · intro w hSw; (try dsimp only at hSw); go_simp; try with_reducible rfl
      try simp only [List.setIfInBounds_toArray, List.set_cons_zero, List.set_cons_succ]
      refine take_at (i := 12) (v := ?_) rfl rfl (by kernel_rfl) (by kernel_rfl) (by kernel_rfl) (fun _ _ _ h => h) (Or.inl ⟨by rfl, ?_⟩) hS ?_
      rotate_left
      · intro w hSw; (try dsimp only at hSw); go_simp; try with_reducible rfl
      try simp only [List.setIfInBounds_toArray, List.set_cons_zero, List.set_cons_succ]
      refine wpAnyH_done (by kernel_rfl) ?_ _
      simp only [Sure, Exit.then]
      clear hS
      have P8 := hid (Blk.below (Blk.below P6.out HB7.out P6.out.lt) HB8.out (Blk.below P6.out HB7.out P6.out.lt).lt)
      have Q8 := hid (Blk.below (Blk.below Q6.out HB7.out Q6.out.lt) HB8.out (Blk.below Q6.out HB7.out Q6.out.lt).lt)
      have cX := X8.out.cell
      have cP := P8.out.cell
      have cX9 : ∀ (o0 : Obj) (i : Nat), (y8.alloc o0).cell? ⟨w.heap.size + 1, i, none⟩ = (#[.int .i64 oB, .int .i64 oM, .int .i64 vB, .int .i64 vM, .slice (some ⟨p, o, none⟩) k c1, .slice a2 k c2] : Array Value)[i]? := fun o0 => (Blk.alloc X8.out o0).cell
      have cQ9 : ∀ (o0 : Obj) (i : Nat), (y8.alloc o0).cell? ⟨q + 1, i, none⟩ = (#[.int .i64 P3, .int .i64 P4] : Array Value)[i]? := fun o0 => (Blk.alloc Q8.out o0).cell
      by_cases good : er = 0 ∧ wErr b m cp oB oM vB vM S D = 0 ∧ Ct.inB vB P1 P2 = true ∧ Ct.inB vM P3 P4 = true
      rotate_left
      · by_cases ge : er = 0
        rotate_left
        · have hz2 : (er != 0) = true := by simpa using ge
          go_wp2_with (go_at_call 14; refine (awake_any _).mono ?_; rintro e v9 ⟨rfl, hb⟩)
          go_ret
          exact ⟨rfl, B8.out.trans (hb.mono B8.out.size)⟩
        by_cases gw : wErr b m cp oB oM vB vM S D = 0
        rotate_left
        · have hz2 : (wErr b m cp oB oM vB vM S D != 0) = true := by simpa using gw
          rw [ge]
          go_wp2_with (go_at_call 14; refine (awake_any _).mono ?_; rintro e v9 ⟨rfl, hb⟩)
          go_ret
          exact ⟨rfl, B8.out.trans (hb.mono B8.out.size)⟩
        rw [ge, gw]
        cases i1 : Ct.inB vB P1 P2
        · have I1 := hid i1
          have I2 := hid i1
          go_wp2_with (first
            | (go_at_call 22; refine (in_any _ _ _ _).mono ?_; rintro e v9 ⟨rfl, rfl⟩; first | rw [I1.out] | rw [I2.out])
            | (go_at_call 14; refine (awake_any _).mono ?_; rintro e v9 ⟨rfl, hb⟩))
          go_ret
          exact ⟨rfl, (Below.alloc B8.out B8.out.size _).trans (hb.mono (Nat.le_trans B8.out.size (by simp)))⟩
        · cases i2 : Ct.inB vM P3 P4
          · have I1 := hid i1
            have I2 := hid i2
            go_wp2_with (first
              | (go_at_call 22; refine (in_any _ _ _ _).mono ?_; rintro e v9 ⟨rfl, rfl⟩; first | rw [I1.out] | rw [I2.out])
              | (go_at_call 14; refine (awake_any _).mono ?_; rintro e v9 ⟨rfl, hb⟩))
            go_ret
            exact ⟨rfl, (Below.alloc (Below.alloc B8.out B8.out.size _) (Nat.le_trans B8.out.size (by simp)) _).trans (hb.mono (Nat.le_trans B8.out.size (by simp <;> omega)))⟩
          · exact absurd ⟨ge, gw, i1, i2⟩ good
      obtain ⟨ge, gw, i1, i2⟩ := good
      have VV := hid (VI.out ge gw (Ct.inB_true i1) (Ct.inB_true i2))
      have I1 := hid i1
      have I2 := hid i2
      have HR := hid (wRows_ok gw).1
      have hl2 : (wRows b m cp oB oM vB vM S D).length = k := by rw [(wRows_ok gw).2, N1.out]
      rw [ge, gw, hl2]
      rw [hl2] at RU
      have HL := hid hl2
      clear ge gw i1 i2 hl2
      go_upto_region 15 with (go_at_call 22; refine (in_any _ _ _ _).mono ?_; rintro e v9 ⟨rfl, rfl⟩; first | rw [I1.out] | rw [I2.out])
      have X9 := hid (Blk.alloc (Blk.alloc X8.out (.cells #[.int .i64 P1, .int .i64 P2] 54)) (.cells #[.int .i64 P3, .int .i64 P4] 54))
      have P9 := hid (Blk.alloc (Blk.alloc P8.out (.cells #[.int .i64 P1, .int .i64 P2] 54)) (.cells #[.int .i64 P3, .int .i64 P4] 54))
      have Q9 := hid (Blk.alloc (Blk.alloc Q8.out (.cells #[.int .i64 P1, .int .i64 P2] 54)) (.cells #[.int .i64 P3, .int .i64 P4] 54))
      have RU9 := hid ((RU.out.allocK (o := (.cells #[.int .i64 P1, .int .i64 P2] 54))).allocK (o := (.cells #[.int .i64 P3, .int .i64 P4] 54)))
      have B9 := hid (Below.alloc (Below.alloc B8.out B8.out.size (.cells #[.int .i64 P1, .int .i64 P2] 54)) (Nat.le_trans B8.out.size (by simp)) (.cells #[.int .i64 P3, .int .i64 P4] 54))
      generalize ((y8.alloc (.cells #[.int .i64 P1, .int .i64 P2] 54)).alloc (.cells #[.int .i64 P3, .int .i64 P4] 54)) = y9 at X9 P9 Q9 RU9 B9 ⊢
      clear cX cP cX9 cQ9
      have cX := X9.out.cell
      go_wp2
      clear cX
      go_loopw [15] (fun i wr => ∃ j : Nat, j ≤ k ∧ i = .int .i64 j ∧ Blk wr q 54 #[.int .i64 P1, .int .i64 P2] ∧ Blk wr (q + 1) 54 #[.int .i64 P3, .int .i64 P4] ∧ Rds Nn wr 2 A k (ints (wRows b m cp oB oM vB vM S D).flatten) ∧ Below w.heap.size w wr) (fun i _ => k - (intOf i).toNat)
      case atStart => exact ⟨0, Nat.zero_le _, rfl, P9.out, Q9.out, RU9.out, B9.out⟩
      case round =>
        obtain ⟨j, hj, rfl, hP, hQ, hR, hbel⟩ := hrel
        have PP := hid hP
        have QQ := hid hQ
        have RR := hid hR
        have BB := hid hbel
        clear hP hQ hR hbel
        by_cases hlt2 : j < k
        · obtain ⟨p1, o1, s, v, rfl, hp1, he, hcell⟩ := cells_at RR.out wRows_two HL.out.symm hlt2
          obtain ⟨e1, e2⟩ := hcell _ (Below.refl _ _)
          have EC := hid hcell
          rw [HR.out] at he
          obtain ⟨m1, m2⟩ := pairs_mem he
          have J1 : Hid (Ct.inB s P1 P2 = true) := hid (by have := VV.out.1 s m1; unfold Ct.inB; simp; omega)
          have J2 : Hid (Ct.inB v P3 P4 = true) := hid (by have := VV.out.2 v m2; unfold Ct.inB; simp; omega)
          clear hcell he m1 m2
          go_upto_region 20 with fail
          refine wp_region_hand (fun w' => Blk w' q 54 #[.int .i64 P1, .int .i64 P2] ∧ Blk w' (q + 1) 54 #[.int .i64 P3, .int .i64 P4] ∧ w'.cell? ⟨p1, o1 + j * 2, none⟩ = some (.int .i64 s) ∧ w'.cell? ⟨p1, o1 + j * 2 + 1, none⟩ = some (.int .i64 v)) (by kernel_rfl) ?_
          simp only [List.length_cons, List.length_nil, Nat.zero_add, Nat.reduceAdd]
          have hS : Blk wr.drew q 54 #[.int .i64 P1, .int .i64 P2] ∧ Blk wr.drew (q + 1) 54 #[.int .i64 P3, .int .i64 P4] ∧ wr.drew.cell? ⟨p1, o1 + j * 2, none⟩ = some (.int .i64 s) ∧ wr.drew.cell? ⟨p1, o1 + j * 2 + 1, none⟩ = some (.int .i64 v) := ⟨PP.out, QQ.out, e1, e2⟩
          refine take_at (i := 0) (v := ?_) rfl rfl (by kernel_rfl) (by kernel_rfl) (by kernel_rfl) (fun _ _ _ h => h) (Or.inl ⟨by rfl, ?_⟩) hS ?_
          rotate_left
          · intro w hSw; (try dsimp only at hSw); go_simp; try with_reducible rfl
          try simp only [List.setIfInBounds_toArray, List.set_cons_zero, List.set_cons_succ]
          refine take_at (i := 1) (v := ?_) rfl rfl (by kernel_rfl) (by kernel_rfl) (by kernel_rfl) (fun _ _ _ h => h) (Or.inl ⟨by rfl, ?_⟩) hS ?_
          rotate_left
          · intro w hSw; (try dsimp only at hSw); go_simp; try with_reducible rfl
          try simp only [List.setIfInBounds_toArray, List.set_cons_zero, List.set_cons_succ]
          refine take_at (i := 2) (v := ?_) rfl rfl (by kernel_rfl) (by kernel_rfl) (by kernel_rfl) (fun _ _ _ h => h) (Or.inl ⟨by rfl, ?_⟩) hS ?_
          rotate_left
          · intro w hSw; (try dsimp only at hSw); go_simp; try with_reducible rfl
          try simp only [List.setIfInBounds_toArray, List.set_cons_zero, List.set_cons_succ]
          refine take_at (i := 3) (v := ?_) rfl rfl (by kernel_rfl) (by kernel_rfl) (by kernel_rfl) (fun _ _ _ h => h) (Or.inl ⟨by rfl, ?_⟩) hS ?_
          rotate_left
          · intro w hSw; (try dsimp only at hSw); go_simp; try with_reducible rfl
          try simp only [List.setIfInBounds_toArray, List.set_cons_zero, List.set_cons_succ]
          refine take_at (i := 4) (v := ?_) rfl rfl (by kernel_rfl) (by kernel_rfl) (by kernel_rfl) (fun _ _ _ h => h) (Or.inl ⟨by rfl, ?_⟩) hS ?_
          rotate_left
          · intro wi hSw; have ci0 := hSw.2.2.1; go_simp; try with_reducible rfl
          try simp only [List.setIfInBounds_toArray, List.set_cons_zero, List.set_cons_succ]
          refine take_at (i := 5) (v := .agg #[.int .i64 P1, .int .i64 P2]) rfl rfl (by kernel_rfl) (by kernel_rfl) (by kernel_rfl) (fun _ _ _ h => h) (Or.inl ⟨by rfl, fun wi hSw => exec_loads (p := .pointer (some ⟨q, 0, none⟩)) rfl rfl (load_blk hSw.1 Try.underlying54 rfl (by kernel_rfl))⟩) hS ?_
          try simp only [List.setIfInBounds_toArray, List.set_cons_zero, List.set_cons_succ]
          refine wpAnyH_ready (rs := [6]) (by kernel_rfl) (by simp) ?_
          refine AllReadyH.cons rfl (fun K hK => ?_) AllReadyH.nil
          go_simp
          (go_at_call 22; refine (in_any _ _ _ _).mono ?_; rintro e v9 ⟨rfl, rfl⟩; rw [J1.out]; have P10 := hid (Blk.alloc (w := wr.drew) PP.out (.cells #[.int .i64 P1, .int .i64 P2] 54)); have Q10 := hid (Blk.alloc (w := wr.drew) QQ.out (.cells #[.int .i64 P1, .int .i64 P2] 54)); have D10 := hid (Below.alloc (w := wr.drew) (Below.drew (Below.refl wr.heap.size wr)) (by first | exact Nat.le_refl _ | simp) (.cells #[.int .i64 P1, .int .i64 P2] 54)); have f10 := EC.out _ D10.out; clear hS)
          refine hK.out _ _ ⟨P10.out, Q10.out, f10.1, f10.2⟩ (fun hS => ?_)
          clear hK K
          try simp only [Act.put, List.setIfInBounds_toArray, List.set_cons_zero, List.set_cons_succ]
          refine take_at (i := 7) (v := ?_) rfl rfl (by kernel_rfl) (by kernel_rfl) (by kernel_rfl) (fun _ _ _ h => h) (Or.inl ⟨by rfl, ?_⟩) hS ?_
          rotate_left
          · intro w hSw; (try dsimp only at hSw); go_simp; try with_reducible rfl
          try simp only [List.setIfInBounds_toArray, List.set_cons_zero, List.set_cons_succ]
          refine take_at (i := 8) (v := ?_) rfl rfl (by kernel_rfl) (by kernel_rfl) (by kernel_rfl) (fun _ _ _ h => h) (Or.inl ⟨by rfl, ?_⟩) hS ?_
          rotate_left
          · intro w hSw; (try dsimp only at hSw); go_simp; try with_reducible rfl
          try simp only [List.setIfInBounds_toArray, List.set_cons_zero, List.set_cons_succ]
          refine take_at (i := 9) (v := ?_) rfl rfl (by kernel_rfl) (by kernel_rfl) (by kernel_rfl) (fun _ _ _ h => h) (Or.inl ⟨by rfl, ?_⟩) hS ?_
          rotate_left
          · intro w hSw; (try dsimp only at hSw); go_simp; try with_reducible rfl
          try simp only [List.setIfInBounds_toArray, List.set_cons_zero, List.set_cons_succ]
          refine take_at (i := 10) (v := ?_) rfl rfl (by kernel_rfl) (by kernel_rfl) (by kernel_rfl) (fun _ _ _ h => h) (Or.inl ⟨by rfl, ?_⟩) hS ?_
          rotate_left
          · intro w hSw; (try dsimp only at hSw); go_simp; try with_reducible rfl
          try simp only [List.setIfInBounds_toArray, List.set_cons_zero, List.set_cons_succ]
          refine take_at (i := 11) (v := ?_) rfl rfl (by kernel_rfl) (by kernel_rfl) (by kernel_rfl) (fun _ _ _ h => h) (Or.inl ⟨by rfl, ?_⟩) hS ?_
          rotate_left
          · intro w hSw; (try dsimp only at hSw); go_simp; try with_reducible rfl
          try simp only [List.setIfInBounds_toArray, List.set_cons_zero, List.set_cons_succ]
          refine take_at (i := 12) (v := ?_) rfl rfl (by kernel_rfl) (by kernel_rfl) (by kernel_rfl) (fun _ _ _ h => h) (Or.inl ⟨by rfl, ?_⟩) hS ?_
          rotate_left
          · intro w hSw; (try dsimp only at hSw); go_simp; try with_reducible rfl
          try simp only [List.setIfInBounds_toArray, List.set_cons_zero, List.set_cons_succ]
          refine take_at (i := 13) (v := ?_) rfl rfl (by kernel_rfl) (by kernel_rfl) (by kernel_rfl) (fun _ _ _ h => h) (Or.inl ⟨by rfl, ?_⟩) hS ?_
          rotate_left
          · intro wi hSw; have ci0 := hSw.2.2.2; go_simp; try with_reducible rfl
          try simp only [List.setIfInBounds_toArray, List.set_cons_zero, List.set_cons_succ]
          refine take_at (i := 14) (v := .agg #[.int .i64 P3, .int .i64 P4]) rfl rfl (by kernel_rfl) (by kernel_rfl) (by kernel_rfl) (fun _ _ _ h => h) (Or.inl ⟨by rfl, fun wi hSw => exec_loads (p := .pointer (some ⟨q + 1, 0, none⟩)) rfl rfl (load_blk hSw.2.1 Try.underlying54 rfl (by kernel_rfl))⟩) hS ?_
          try simp only [List.setIfInBounds_toArray, List.set_cons_zero, List.set_cons_succ]
          refine wpAnyH_ready (rs := [15]) (by kernel_rfl) (by simp) ?_
          refine AllReadyH.cons rfl (fun K hK => ?_) AllReadyH.nil
          go_simp
          (go_at_call 22; refine (in_any _ _ _ _).mono ?_; rintro e v9 ⟨rfl, rfl⟩; rw [J2.out]; have P11 := hid (Blk.alloc (w := (wr.drew.alloc (.cells #[.int .i64 P1, .int .i64 P2] 54))) P10.out (.cells #[.int .i64 P3, .int .i64 P4] 54)); have Q11 := hid (Blk.alloc (w := (wr.drew.alloc (.cells #[.int .i64 P1, .int .i64 P2] 54))) Q10.out (.cells #[.int .i64 P3, .int .i64 P4] 54)); have D11 := hid (Below.alloc (w := (wr.drew.alloc (.cells #[.int .i64 P1, .int .i64 P2] 54))) D10.out (by first | exact Nat.le_refl _ | simp) (.cells #[.int .i64 P3, .int .i64 P4] 54)); have f11 := EC.out _ D11.out; clear hS)
          refine hK.out _ _ ⟨P11.out, Q11.out, f11.1, f11.2⟩ (fun hS => ?_)
          clear hK K
          try simp only [Act.put, List.setIfInBounds_toArray, List.set_cons_zero, List.set_cons_succ]
          refine take_at (i := 16) (v := ?_) rfl rfl (by kernel_rfl) (by kernel_rfl) (by kernel_rfl) (fun _ _ _ h => h) (Or.inl ⟨by rfl, ?_⟩) hS ?_
          rotate_left
          · intro w hSw; (try dsimp only at hSw); go_simp; try with_reducible rfl
          try simp only [List.setIfInBounds_toArray, List.set_cons_zero, List.set_cons_succ]
          refine take_at (i := 17) (v := ?_) rfl rfl (by kernel_rfl) (by kernel_rfl) (by kernel_rfl) (fun _ _ _ h => h) (Or.inl ⟨by rfl, ?_⟩) hS ?_
          rotate_left
          · intro w hSw; (try dsimp only at hSw); go_simp; try with_reducible rfl
          try simp only [List.setIfInBounds_toArray, List.set_cons_zero, List.set_cons_succ]
          refine wpAnyH_done (by kernel_rfl) ?_ _
          simp only [Sure, Exit.then]
          clear hS f10 f11 e1 e2
          have R11 := hid (RR.out.below D11.out)
          have B11 := hid (BB.out.trans (D11.out.mono BB.out.size))
          go_wp2
          go_roundw
          case rel => exact ⟨j + 1, by omega, by go_num, P11.out, Q11.out, R11.out, B11.out⟩
          case measure => simp [intOf]; omega
        · obtain rfl : j = k := by omega
          go_wp2_with (go_at_call 14; refine (awake_any _).mono ?_; rintro e v9 ⟨rfl, hb⟩)
          go_ret
          exact ⟨rfl, BB.out.trans (hb.mono BB.out.size)⟩
theorem webLimits_walk (x0 : Int) (x1 : Int) (x2 : Int) (x3 : Int) (x4 : Int) (x5 : Int) (x6 : Int) (x7 : Int) (x8 : Int) (x9 : Int) (x10 : Int) (x11 : Int) (x12 : Int) (x13 : Int) (x14 : Int) (x15 : Int) (x16 : Int) (x17 : Int) (x18 : Int) (x19 : Int) (x20 : Int) (x21 : Int) (x22 : Int) (a23 : Option Addr) (c23 : Nat) (x23 : List (List Int)) (a24 : Option Addr) (c24 : Nat) (x24 : List (List Int)) (x25 : Int) (x26 : Int) (w : World) (_h0 : (Lit.int .i64 x0).wf = true) (_h1 : (Lit.int .i64 x1).wf = true) (_h2 : (Lit.int .i64 x2).wf = true) (_h3 : (Lit.int .i64 x3).wf = true) (_h4 : (Lit.int .i64 x4).wf = true) (_h5 : (Lit.int .i64 x5).wf = true) (_h6 : (Lit.int .i64 x6).wf = true) (_h7 : (Lit.int .i64 x7).wf = true) (_h8 : (Lit.int .i64 x8).wf = true) (_h9 : (Lit.int .i64 x9).wf = true) (_h10 : (Lit.int .i64 x10).wf = true) (_h11 : (Lit.int .i64 x11).wf = true) (_h12 : (Lit.int .i64 x12).wf = true) (_h13 : (Lit.int .i64 x13).wf = true) (_h14 : (Lit.int .i64 x14).wf = true) (_h15 : (Lit.int .i64 x15).wf = true) (_h16 : (Lit.int .i64 x16).wf = true) (_h17 : (Lit.int .i64 x17).wf = true) (_h18 : (Lit.int .i64 x18).wf = true) (_h19 : (Lit.int .i64 x19).wf = true) (_h20 : (Lit.int .i64 x20).wf = true) (_h21 : (Lit.int .i64 x21).wf = true) (_h22 : (Lit.int .i64 x22).wf = true) (h23 : Rds Nn w 2 a23 x23.length (ints x23.flatten)) (g23 : x23.length ≤ c23 ∧ c23 ≤ maxLen ∧ (a23 = none → x23.length = 0 ∧ c23 = 0)) (i23 : ∀ r ∈ x23, r.length = 2 ∧ ∀ n ∈ r, (Lit.int .i64 n).wf = true) (h24 : Rds Nn w 2 a24 x24.length (ints x24.flatten)) (g24 : x24.length ≤ c24 ∧ c24 ≤ maxLen ∧ (a24 = none → x24.length = 0 ∧ c24 = 0)) (i24 : ∀ r ∈ x24, r.length = 2 ∧ ∀ n ∈ r, (Lit.int .i64 n).wf = true) (h25 : (Lit.int .i64 x25).wf = true) (h26 : (Lit.int .i64 x26).wf = true) :
    Calls Try.prog 6 #[.agg #[.int .i64 x0, .int .i64 x1, .int .i64 x2, .int .i64 x3, .int .i64 x4, .int .i64 x5, .int .i64 x6, .int .i64 x7, .int .i64 x8, .int .i64 x9, .int .i64 x10, .int .i64 x11, .int .i64 x12, .int .i64 x13, .int .i64 x14, .int .i64 x15, .int .i64 x16, .int .i64 x17, .int .i64 x18], .agg #[.int .i64 x19, .int .i64 x20, .int .i64 x21, .int .i64 x22, .slice a23 x23.length c23, .slice a24 x24.length c24], .agg #[.int .i64 x25, .int .i64 x26]] w fun e w' => e = .returned (.bool true) ∧ Below w.heap.size w w' := webLimits_in ⟨x0, x1, x2, x3, x4, x5, x6, x7, x8⟩ ⟨x9, x10, x11, x12, x13, x14, x15, x16, x17⟩ x18 x19 x20 x21 x22 a23 a24 c23 c24 _ _ x23 x24 w h23 h24 (fun r hr => (i23 r hr).1) (fun r hr => (i24 r hr).1) rfl rfl (Nat.le_trans g23.1 g23.2.1) (Nat.le_trans g24.1 g24.2.1) x25 x26 (by simp [Lit.wf, IntKind.min, IntKind.max, IntKind.bits, IntKind.signed] at h25; omega) (by simp [Lit.wf, IntKind.min, IntKind.max, IntKind.bits, IntKind.signed] at h26; omega)
end Go.Proofs.Ytfdblofpfpmbhaa
