/- WebChecks: for every input the law returns true. No condition. -/
import Derived.Test.YtfdblofpfpmbhaaLaw28
namespace Go.Proofs.Ytfdblofpfpmbhaa
open Go.RowKit

set_option linter.unusedSimpArgs false in
set_option maxRecDepth 100000 in
set_option maxHeartbeats 8000000 in
theorem webChecks_in (b m : CP) (cp : Int) (x y : Int) (w : World) : Calls Try.prog 3 #[.agg #[.int .i64 b.kp, .int .i64 b.ki, .int .i64 b.sh, .int .i64 b.lo, .int .i64 b.hi, .int .i64 b.rate, .int .i64 b.ga, .int .i64 b.la, .int .i64 b.de, .int .i64 m.kp, .int .i64 m.ki, .int .i64 m.sh, .int .i64 m.lo, .int .i64 m.hi, .int .i64 m.rate, .int .i64 m.ga, .int .i64 m.la, .int .i64 m.de, .int .i64 cp], .agg #[.int .i64 x, .int .i64 y]] w fun e w' => e = .returned (.bool true) ∧ Below w.heap.size w w' := by
  go_enter Try.func3, Try.ntmps3
  go_upto_region 1 with fail
  have W0 := hid (Blk.alloc (Blk.at_new w (b := w.heap.size) (t := 29) (cs := #[.int .i64 b.kp, .int .i64 b.ki, .int .i64 b.sh, .int .i64 b.lo, .int .i64 b.hi, .int .i64 b.rate, .int .i64 b.ga, .int .i64 b.la, .int .i64 b.de, .int .i64 m.kp, .int .i64 m.ki, .int .i64 m.sh, .int .i64 m.lo, .int .i64 m.hi, .int .i64 m.rate, .int .i64 m.ga, .int .i64 m.la, .int .i64 m.de, .int .i64 cp]) rfl) (.cells #[.int .i64 x, .int .i64 y] 31))
  have X0 := hid (Blk.at_new (w.alloc (.cells #[.int .i64 b.kp, .int .i64 b.ki, .int .i64 b.sh, .int .i64 b.lo, .int .i64 b.hi, .int .i64 b.rate, .int .i64 b.ga, .int .i64 b.la, .int .i64 b.de, .int .i64 m.kp, .int .i64 m.ki, .int .i64 m.sh, .int .i64 m.lo, .int .i64 m.hi, .int .i64 m.rate, .int .i64 m.ga, .int .i64 m.la, .int .i64 m.de, .int .i64 cp] 29)) (b := w.heap.size + 1) (t := 31) (cs := #[.int .i64 x, .int .i64 y]) (by simp))
  have B0 := hid (Below.alloc (Below.alloc (Below.refl w.heap.size w) (Nat.le_refl _) (.cells #[.int .i64 b.kp, .int .i64 b.ki, .int .i64 b.sh, .int .i64 b.lo, .int .i64 b.hi, .int .i64 b.rate, .int .i64 b.ga, .int .i64 b.la, .int .i64 b.de, .int .i64 m.kp, .int .i64 m.ki, .int .i64 m.sh, .int .i64 m.lo, .int .i64 m.hi, .int .i64 m.rate, .int .i64 m.ga, .int .i64 m.la, .int .i64 m.de, .int .i64 cp] 29)) (by simp) (.cells #[.int .i64 x, .int .i64 y] 31))
  generalize ((w.alloc (.cells #[.int .i64 b.kp, .int .i64 b.ki, .int .i64 b.sh, .int .i64 b.lo, .int .i64 b.hi, .int .i64 b.rate, .int .i64 b.ga, .int .i64 b.la, .int .i64 b.de, .int .i64 m.kp, .int .i64 m.ki, .int .i64 m.sh, .int .i64 m.lo, .int .i64 m.hi, .int .i64 m.rate, .int .i64 m.ga, .int .i64 m.la, .int .i64 m.de, .int .i64 cp] 29)).alloc (.cells #[.int .i64 x, .int .i64 y] 31)) = wa at W0 X0 B0 ⊢
  go_wp2_with (first
    | (refine wpList_load_blk2 (t := 29) rfl rfl rfl Try.underlying29 rfl (by kernel_rfl) W0.out ?_)
    | (refine wpList_load_blk2 (t := 31) rfl rfl rfl Try.underlying31 rfl (by kernel_rfl) X0.out ?_))
  refine (wrests_any b m cp x y _).mono ?_
  rintro e w1 ⟨oB, oM, vB, vM, er, rfl, hs, hb⟩
  have SP := hid hs
  have W1 := hid (Blk.below W0.out hb W0.out.lt)
  have X1 := hid (Blk.below X0.out hb X0.out.lt)
  have B1 := hid (B0.out.trans (hb.mono B0.out.size))
  have l1 := W1.out.lt
  have l2 := X1.out.lt
  clear hb hs
  go_upto_region 2 with (refine wpList_store_blk2 (b := w1.heap.size) (t := 33) (e := 33) (cs0 := #[.int .i64 0, .int .i64 0, .int .i64 0, .int .i64 0]) (cs := #[.int .i64 oB, .int .i64 oM, .int .i64 vB, .int .i64 vM]) rfl rfl rfl rfl (by kernel_rfl) rfl (by simp [Value.oneCell']) (Blk.at_new w1 rfl) ?_)
  have S2 := hid (Blk.row (Blk.at_new w1 (b := w1.heap.size) (t := 33) (cs := #[.int .i64 0, .int .i64 0, .int .i64 0, .int .i64 0]) rfl) #[.int .i64 oB, .int .i64 oM, .int .i64 vB, .int .i64 vM])
  have W2 := hid (Blk.rowOther (g := w1.heap.size) (Blk.alloc W1.out (.cells #[.int .i64 0, .int .i64 0, .int .i64 0, .int .i64 0] 33)) (by omega) #[.int .i64 oB, .int .i64 oM, .int .i64 vB, .int .i64 vM])
  have X2 := hid (Blk.rowOther (g := w1.heap.size) (Blk.alloc X1.out (.cells #[.int .i64 0, .int .i64 0, .int .i64 0, .int .i64 0] 33)) (by omega) #[.int .i64 oB, .int .i64 oM, .int .i64 vB, .int .i64 vM])
  have B2 := hid (Below.row (g := w1.heap.size) (Below.alloc B1.out B1.out.size (.cells #[.int .i64 0, .int .i64 0, .int .i64 0, .int .i64 0] 33)) B1.out.size #[.int .i64 oB, .int .i64 oM, .int .i64 vB, .int .i64 vM])
  generalize ((w1.alloc (.cells #[.int .i64 0, .int .i64 0, .int .i64 0, .int .i64 0] 33)).setRow w1.heap.size #[.int .i64 oB, .int .i64 oM, .int .i64 vB, .int .i64 vM]) = wb at S2 W2 X2 B2 ⊢
  go_wp2_with (first
    | (refine wpList_load_blk2 (t := 29) rfl rfl rfl Try.underlying29 rfl (by kernel_rfl) W2.out ?_)
    | (refine wpList_load_blk2 (t := 31) rfl rfl rfl Try.underlying31 rfl (by kernel_rfl) X2.out ?_))
  refine (rwrests_any b m cp x y _).mono ?_
  rintro e w3 ⟨oB', oM', vB', vM', er', rfl, hs, hb⟩
  obtain ⟨rfl, rfl, rfl, rfl, rfl⟩ := rest_same SP.out hs
  have W3 := hid (Blk.below W2.out hb W2.out.lt)
  have S3 := hid (Blk.below S2.out hb S2.out.lt)
  have B3 := hid (B2.out.trans (hb.mono B2.out.size))
  have l3 := W3.out.lt
  have l4 := S3.out.lt
  clear hb hs
  go_upto_region 3 with (refine wpList_store_blk2 (b := w3.heap.size) (t := 37) (e := 37) (cs0 := #[.int .i64 0, .int .i64 0, .int .i64 0, .int .i64 0]) (cs := #[.int .i64 oB, .int .i64 oM, .int .i64 vB, .int .i64 vM]) rfl rfl rfl rfl (by kernel_rfl) rfl (by simp [Value.oneCell']) (Blk.at_new w3 rfl) ?_)
  have R4 := hid (Blk.row (Blk.at_new w3 (b := w3.heap.size) (t := 37) (cs := #[.int .i64 0, .int .i64 0, .int .i64 0, .int .i64 0]) rfl) #[.int .i64 oB, .int .i64 oM, .int .i64 vB, .int .i64 vM])
  have W4 := hid (Blk.rowOther (g := w3.heap.size) (Blk.alloc W3.out (.cells #[.int .i64 0, .int .i64 0, .int .i64 0, .int .i64 0] 37)) (by omega) #[.int .i64 oB, .int .i64 oM, .int .i64 vB, .int .i64 vM])
  have S4 := hid (Blk.rowOther (g := w3.heap.size) (Blk.alloc S3.out (.cells #[.int .i64 0, .int .i64 0, .int .i64 0, .int .i64 0] 37)) (by omega) #[.int .i64 oB, .int .i64 oM, .int .i64 vB, .int .i64 vM])
  have B4 := hid (Below.row (g := w3.heap.size) (Below.alloc B3.out B3.out.size (.cells #[.int .i64 0, .int .i64 0, .int .i64 0, .int .i64 0] 37)) B3.out.size #[.int .i64 oB, .int .i64 oM, .int .i64 vB, .int .i64 vM])
  generalize ((w3.alloc (.cells #[.int .i64 0, .int .i64 0, .int .i64 0, .int .i64 0] 37)).setRow w3.heap.size #[.int .i64 oB, .int .i64 oM, .int .i64 vB, .int .i64 vM]) = wc at R4 W4 S4 B4 ⊢
  refine wp_region_hand (fun w' => Blk w' w.heap.size 29 #[.int .i64 b.kp, .int .i64 b.ki, .int .i64 b.sh, .int .i64 b.lo, .int .i64 b.hi, .int .i64 b.rate, .int .i64 b.ga, .int .i64 b.la, .int .i64 b.de, .int .i64 m.kp, .int .i64 m.ki, .int .i64 m.sh, .int .i64 m.lo, .int .i64 m.hi, .int .i64 m.rate, .int .i64 m.ga, .int .i64 m.la, .int .i64 m.de, .int .i64 cp] ∧ Blk w' w1.heap.size 33 #[.int .i64 oB, .int .i64 oM, .int .i64 vB, .int .i64 vM] ∧ Blk w' w3.heap.size 37 #[.int .i64 oB, .int .i64 oM, .int .i64 vB, .int .i64 vM]) (by kernel_rfl) ?_
  simp only [List.length_cons, List.length_nil, Nat.zero_add, Nat.reduceAdd]
  have hS : Blk wc.drew w.heap.size 29 #[.int .i64 b.kp, .int .i64 b.ki, .int .i64 b.sh, .int .i64 b.lo, .int .i64 b.hi, .int .i64 b.rate, .int .i64 b.ga, .int .i64 b.la, .int .i64 b.de, .int .i64 m.kp, .int .i64 m.ki, .int .i64 m.sh, .int .i64 m.lo, .int .i64 m.hi, .int .i64 m.rate, .int .i64 m.ga, .int .i64 m.la, .int .i64 m.de, .int .i64 cp] ∧ Blk wc.drew w1.heap.size 33 #[.int .i64 oB, .int .i64 oM, .int .i64 vB, .int .i64 vM] ∧ Blk wc.drew w3.heap.size 37 #[.int .i64 oB, .int .i64 oM, .int .i64 vB, .int .i64 vM] := ⟨W4.out, S4.out, R4.out⟩
  refine take_at (i := 0) (v := .agg #[.int .i64 b.kp, .int .i64 b.ki, .int .i64 b.sh, .int .i64 b.lo, .int .i64 b.hi, .int .i64 b.rate, .int .i64 b.ga, .int .i64 b.la, .int .i64 b.de, .int .i64 m.kp, .int .i64 m.ki, .int .i64 m.sh, .int .i64 m.lo, .int .i64 m.hi, .int .i64 m.rate, .int .i64 m.ga, .int .i64 m.la, .int .i64 m.de, .int .i64 cp]) rfl rfl (by kernel_rfl) (by kernel_rfl) (by kernel_rfl) (fun _ _ _ h => h) (Or.inl ⟨by rfl, fun wi hSw => exec_loads (p := .pointer (some ⟨w.heap.size, 0, none⟩)) rfl rfl (load_blk hSw.1 Try.underlying29 rfl (by kernel_rfl))⟩) hS ?_
  try simp only [List.setIfInBounds_toArray, List.set_cons_zero, List.set_cons_succ]
  refine take_at (i := 2) (v := .agg #[.int .i64 b.kp, .int .i64 b.ki, .int .i64 b.sh, .int .i64 b.lo, .int .i64 b.hi, .int .i64 b.rate, .int .i64 b.ga, .int .i64 b.la, .int .i64 b.de, .int .i64 m.kp, .int .i64 m.ki, .int .i64 m.sh, .int .i64 m.lo, .int .i64 m.hi, .int .i64 m.rate, .int .i64 m.ga, .int .i64 m.la, .int .i64 m.de, .int .i64 cp]) rfl rfl (by kernel_rfl) (by kernel_rfl) (by kernel_rfl) (fun _ _ _ h => h) (Or.inl ⟨by rfl, fun wi hSw => exec_loads (p := .pointer (some ⟨w.heap.size, 0, none⟩)) rfl rfl (load_blk hSw.1 Try.underlying29 rfl (by kernel_rfl))⟩) hS ?_
  try simp only [List.setIfInBounds_toArray, List.set_cons_zero, List.set_cons_succ]
  refine wpAnyH_ready (rs := [1]) (by kernel_rfl) (by simp) ?_
  refine AllReadyH.cons rfl (fun K hK => ?_) AllReadyH.nil
  go_simp
  (go_at_call 12; refine (wcheck_any b m cp _).mono ?_; rintro e y5 ⟨rfl, hb⟩; have HB5 := hid (show Below wc.heap.size wc y5 from by first | exact hb | exact (Below.drew (Below.refl _ _)).trans hb); have W5 := hid (Blk.below W4.out HB5.out W4.out.lt); have S5 := hid (Blk.below S4.out HB5.out S4.out.lt); have R5 := hid (Blk.below R4.out HB5.out R4.out.lt); have B5 := hid (B4.out.trans (HB5.out.mono B4.out.size)); clear hb hS)
  refine hK.out _ _ ⟨W5.out, S5.out, R5.out⟩ (fun hS => ?_)
  clear hK K
  try simp only [Act.put, List.setIfInBounds_toArray, List.set_cons_zero, List.set_cons_succ]
  refine wpAnyH_ready (rs := [3]) (by kernel_rfl) (by simp) ?_
  refine AllReadyH.cons rfl (fun K hK => ?_) AllReadyH.nil
  go_simp
  (go_at_call 13; refine (rwcheck_any b m cp _).mono ?_; rintro e y6 ⟨rfl, hb⟩; have HB6 := hid (show Below y5.heap.size y5 y6 from by first | exact hb | exact (Below.drew (Below.refl _ _)).trans hb); have W6 := hid (Blk.below W5.out HB6.out W5.out.lt); have S6 := hid (Blk.below S5.out HB6.out S5.out.lt); have R6 := hid (Blk.below R5.out HB6.out R5.out.lt); have B6 := hid (B5.out.trans (HB6.out.mono B5.out.size)); clear hb hS)
  refine hK.out _ _ ⟨W6.out, S6.out, R6.out⟩ (fun hS => ?_)
  clear hK K
  try simp only [Act.put, List.setIfInBounds_toArray, List.set_cons_zero, List.set_cons_succ]
  refine take_at (i := 4) (v := ?_) rfl rfl (by kernel_rfl) (by kernel_rfl) (by kernel_rfl) (fun _ _ _ h => h) (Or.inl ⟨by rfl, ?_⟩) hS ?_
  rotate_left
  · intro w hSw; (try dsimp only at hSw); go_simp; try with_reducible rfl
  try simp only [List.setIfInBounds_toArray, List.set_cons_zero, List.set_cons_succ]
  refine take_at (i := 5) (v := ?_) rfl rfl (by kernel_rfl) (by kernel_rfl) (by kernel_rfl) (fun _ _ _ h => h) (Or.inl ⟨by rfl, ?_⟩) hS ?_
  rotate_left
  · intro w hSw; (try dsimp only at hSw); go_simp; try with_reducible rfl
  try simp only [List.setIfInBounds_toArray, List.set_cons_zero, List.set_cons_succ]
  refine take_at (i := 6) (v := .agg #[.int .i64 oB, .int .i64 oM, .int .i64 vB, .int .i64 vM]) rfl rfl (by kernel_rfl) (by kernel_rfl) (by kernel_rfl) (fun _ _ _ h => h) (Or.inl ⟨by rfl, fun wi hSw => exec_loads (p := .pointer (some ⟨w1.heap.size, 0, none⟩)) rfl rfl (load_blk hSw.2.1 Try.underlying33 rfl (by kernel_rfl))⟩) hS ?_
  try simp only [List.setIfInBounds_toArray, List.set_cons_zero, List.set_cons_succ]
  refine take_at (i := 7) (v := .agg #[.int .i64 oB, .int .i64 oM, .int .i64 vB, .int .i64 vM]) rfl rfl (by kernel_rfl) (by kernel_rfl) (by kernel_rfl) (fun _ _ _ h => h) (Or.inl ⟨by rfl, fun wi hSw => exec_loads (p := .pointer (some ⟨w3.heap.size, 0, none⟩)) rfl rfl (load_blk hSw.2.2 Try.underlying37 rfl (by kernel_rfl))⟩) hS ?_
  try simp only [List.setIfInBounds_toArray, List.set_cons_zero, List.set_cons_succ]
  refine take_at (i := 8) (v := ?_) rfl rfl (by kernel_rfl) (by kernel_rfl) (by kernel_rfl) (fun _ _ _ h => h) (Or.inl ⟨by rfl, ?_⟩) hS ?_
  rotate_left
  · intro w hSw; (try dsimp only at hSw); go_simp; try with_reducible rfl
  try simp only [List.setIfInBounds_toArray, List.set_cons_zero, List.set_cons_succ]
  refine take_at (i := 9) (v := ?_) rfl rfl (by kernel_rfl) (by kernel_rfl) (by kernel_rfl) (fun _ _ _ h => h) (Or.inl ⟨by rfl, ?_⟩) hS ?_
  rotate_left
  · intro w hSw; (try dsimp only at hSw); go_simp; try with_reducible rfl
  try simp only [List.setIfInBounds_toArray, List.set_cons_zero, List.set_cons_succ]
  refine take_at (i := 10) (v := ?_) rfl rfl (by kernel_rfl) (by kernel_rfl) (by kernel_rfl) (fun _ _ _ h => h) (Or.inl ⟨by rfl, ?_⟩) hS ?_
  rotate_left
  · intro w hSw; (try dsimp only at hSw); go_simp; try with_reducible rfl
  try simp only [List.setIfInBounds_toArray, List.set_cons_zero, List.set_cons_succ]
  refine take_at (i := 11) (v := ?_) rfl rfl (by kernel_rfl) (by kernel_rfl) (by kernel_rfl) (fun _ _ _ h => h) (Or.inl ⟨by rfl, ?_⟩) hS ?_
  rotate_left
  · intro w hSw; (try dsimp only at hSw); go_simp; try with_reducible rfl
  try simp only [List.setIfInBounds_toArray, List.set_cons_zero, List.set_cons_succ]
  refine take_at (i := 12) (v := ?_) rfl rfl (by kernel_rfl) (by kernel_rfl) (by kernel_rfl) (fun _ _ _ h => h) (Or.inl ⟨by rfl, ?_⟩) hS ?_
  rotate_left
  · intro w hSw; (try dsimp only at hSw); go_simp; try with_reducible rfl
  try simp only [List.setIfInBounds_toArray, List.set_cons_zero, List.set_cons_succ]
  refine take_at (i := 13) (v := ?_) rfl rfl (by kernel_rfl) (by kernel_rfl) (by kernel_rfl) (fun _ _ _ h => h) (Or.inl ⟨by rfl, ?_⟩) hS ?_
  rotate_left
  · intro w hSw; (try dsimp only at hSw); go_simp; try with_reducible rfl
  try simp only [List.setIfInBounds_toArray, List.set_cons_zero, List.set_cons_succ]
  refine take_at (i := 14) (v := ?_) rfl rfl (by kernel_rfl) (by kernel_rfl) (by kernel_rfl) (fun _ _ _ h => h) (Or.inl ⟨by rfl, ?_⟩) hS ?_
  rotate_left
  · intro w hSw; (try dsimp only at hSw); go_simp; try with_reducible rfl
  try simp only [List.setIfInBounds_toArray, List.set_cons_zero, List.set_cons_succ]
  refine take_at (i := 15) (v := ?_) rfl rfl (by kernel_rfl) (by kernel_rfl) (by kernel_rfl) (fun _ _ _ h => h) (Or.inl ⟨by rfl, ?_⟩) hS ?_
  rotate_left
  · intro w hSw; (try dsimp only at hSw); go_simp; try with_reducible rfl
  try simp only [List.setIfInBounds_toArray, List.set_cons_zero, List.set_cons_succ]
  refine wpAnyH_ready (rs := [16]) (by kernel_rfl) (by simp) ?_
  refine AllReadyH.cons rfl (fun K hK => ?_) AllReadyH.nil
  go_simp
  (go_at_call 14; refine (awake_any _).mono ?_; rintro e y7 ⟨rfl, hb⟩; have HB7 := hid (show Below y6.heap.size y6 y7 from by first | exact hb | exact (Below.drew (Below.refl _ _)).trans hb); have W7 := hid (Blk.below W6.out HB7.out W6.out.lt); have S7 := hid (Blk.below S6.out HB7.out S6.out.lt); have R7 := hid (Blk.below R6.out HB7.out R6.out.lt); have B7 := hid (B6.out.trans (HB7.out.mono B6.out.size)); clear hb hS)
  refine hK.out _ _ ⟨W7.out, S7.out, R7.out⟩ (fun hS => ?_)
  clear hK K
  try simp only [Act.put, List.setIfInBounds_toArray, List.set_cons_zero, List.set_cons_succ]
  refine take_at (i := 17) (v := ?_) rfl rfl (by kernel_rfl) (by kernel_rfl) (by kernel_rfl) (fun _ _ _ h => h) (Or.inl ⟨by rfl, ?_⟩) hS ?_
  rotate_left
  · intro w hSw; (try dsimp only at hSw); go_simp; try with_reducible rfl
  try simp only [List.setIfInBounds_toArray, List.set_cons_zero, List.set_cons_succ]
  refine take_at (i := 18) (v := ?_) rfl rfl (by kernel_rfl) (by kernel_rfl) (by kernel_rfl) (fun _ _ _ h => h) (Or.inl ⟨by rfl, ?_⟩) hS ?_
  rotate_left
  · intro w hSw; (try dsimp only at hSw); go_simp; try with_reducible rfl
  try simp only [List.setIfInBounds_toArray, List.set_cons_zero, List.set_cons_succ]
  refine wpAnyH_done (by kernel_rfl) ?_ _
  simp only [Sure, Exit.then]
  clear hS
  go_wp2
  go_ret
  exact ⟨rfl, B7.out⟩
theorem webChecks_walk (x0 : Int) (x1 : Int) (x2 : Int) (x3 : Int) (x4 : Int) (x5 : Int) (x6 : Int) (x7 : Int) (x8 : Int) (x9 : Int) (x10 : Int) (x11 : Int) (x12 : Int) (x13 : Int) (x14 : Int) (x15 : Int) (x16 : Int) (x17 : Int) (x18 : Int) (x19 : Int) (x20 : Int) (w : World) (_h0 : (Lit.int .i64 x0).wf = true) (_h1 : (Lit.int .i64 x1).wf = true) (_h2 : (Lit.int .i64 x2).wf = true) (_h3 : (Lit.int .i64 x3).wf = true) (_h4 : (Lit.int .i64 x4).wf = true) (_h5 : (Lit.int .i64 x5).wf = true) (_h6 : (Lit.int .i64 x6).wf = true) (_h7 : (Lit.int .i64 x7).wf = true) (_h8 : (Lit.int .i64 x8).wf = true) (_h9 : (Lit.int .i64 x9).wf = true) (_h10 : (Lit.int .i64 x10).wf = true) (_h11 : (Lit.int .i64 x11).wf = true) (_h12 : (Lit.int .i64 x12).wf = true) (_h13 : (Lit.int .i64 x13).wf = true) (_h14 : (Lit.int .i64 x14).wf = true) (_h15 : (Lit.int .i64 x15).wf = true) (_h16 : (Lit.int .i64 x16).wf = true) (_h17 : (Lit.int .i64 x17).wf = true) (_h18 : (Lit.int .i64 x18).wf = true) (_h19 : (Lit.int .i64 x19).wf = true) (_h20 : (Lit.int .i64 x20).wf = true) :
    Calls Try.prog 3 #[.agg #[.int .i64 x0, .int .i64 x1, .int .i64 x2, .int .i64 x3, .int .i64 x4, .int .i64 x5, .int .i64 x6, .int .i64 x7, .int .i64 x8, .int .i64 x9, .int .i64 x10, .int .i64 x11, .int .i64 x12, .int .i64 x13, .int .i64 x14, .int .i64 x15, .int .i64 x16, .int .i64 x17, .int .i64 x18], .agg #[.int .i64 x19, .int .i64 x20]] w fun e w' => e = .returned (.bool true) ∧ Below w.heap.size w w' := webChecks_in ⟨x0, x1, x2, x3, x4, x5, x6, x7, x8⟩ ⟨x9, x10, x11, x12, x13, x14, x15, x16, x17⟩ x18 x19 x20 w
end Go.Proofs.Ytfdblofpfpmbhaa
