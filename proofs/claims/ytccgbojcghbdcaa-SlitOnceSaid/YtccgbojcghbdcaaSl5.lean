/- Chapter 39: maps of runs: the image of a place. -/
import Derived.Test.YtccgbojcghbdcaaSl4
import Derived.Test.YtccgbojcghbdcaaHand
import Derived.Lib.MinMax
namespace Go.Proofs.Ytccgbojcghbdcaa
open Go.RowKit

theorem results_cell_tmp {P : Program} {fn : Func} {tmps : Array Value} {a b k : Nat} {t e : TypeId} {cs : Array Value} {d : TypeDesc} {w : World} {v : Value} (hf : fn.results = #[.cell a t, .tmp k]) (ha : tmps.getD a undef = .pointer (some ⟨b, 0, none⟩)) (hv : tmps.getD k undef = v) (h : Blk w b e cs) (hu : P.underlying t = some d) (hd : d.isRow = true) (hi : (P.info? t).map (·.size) = some cs.size) : (results fn tmps).run P w = .ok (.tuple #[.agg cs, v]) w := by
  have hl := run_loadVar_mid (P := P) w b 0 t cs.toList d (fun j v hv => by rw [Nat.zero_add, h.cell]; simpa using hv) hu hd (by simpa using hi)
  unfold results
  rw [hf]
  simp only [List.mapM_toArray, List.mapM_cons, List.mapM_nil, ha, hv, asAddr, Sem.run_bind, Sem.run_pure]
  simp [hl]
set_option linter.unusedSimpArgs false in
set_option maxRecDepth 100000 in
set_option maxHeartbeats 4000000 in
theorem pimg_any (x y q : Int) (b : Bool) (w : World) (h : 0 ≤ x ∧ x < 17179869184) (h2 : 0 ≤ q ∧ q ≤ 17179869184) : Calls Try.prog 70 #[.agg #[.int .i64 x, .int .i64 y, .bool b], .int .i64 q] w fun e w' => e = .returned (.int .i64 (img (x, y, b) q)) ∧ Below w.heap.size w w' := by
  have C := (Blk.at_new w (b := w.heap.size) (t := 69) (cs := #[.int .i64 x, .int .i64 y, .bool b]) rfl).cell
  have w1 : IntKind.i64.wrap (x - q) = x - q := IntWalk.i64_in _ (by omega)
  have w2 : IntKind.i64.wrap (x + q) = x + q := IntWalk.i64_in _ (by omega)
  cases b with
  | true =>
    go_enter Try.func70, Try.ntmps70
    go_wp2
    go_ret
    exact ⟨rfl, (Below.refl _ _).alloc (Nat.le_refl _) _⟩
  | false =>
    go_enter Try.func70, Try.ntmps70
    go_wp2
    go_ret
    exact ⟨rfl, (Below.refl _ _).alloc (Nat.le_refl _) _⟩
set_option linter.unusedSimpArgs false in
set_option maxRecDepth 100000 in
set_option maxHeartbeats 4000000 in
theorem rimg_any (x y q : Int) (b : Bool) (w : World) (h : 0 ≤ x ∧ x < 17179869184) (h2 : 0 ≤ q ∧ q ≤ 17179869184) : Calls Try.prog 55 #[.agg #[.int .i64 x, .int .i64 y, .bool b], .int .i64 q] w fun e w' => e = .returned (.int .i64 (img (x, y, b) q)) ∧ Below w.heap.size w w' := by
  have C := (Blk.at_new w (b := w.heap.size) (t := 69) (cs := #[.int .i64 x, .int .i64 y, .bool b]) rfl).cell
  have w1 : IntKind.i64.wrap (x - q) = x - q := IntWalk.i64_in _ (by omega)
  have w2 : IntKind.i64.wrap (x + q) = x + q := IntWalk.i64_in _ (by omega)
  cases b with
  | true =>
    go_enter Try.func55, Try.ntmps55
    go_wp2
    go_ret
    exact ⟨rfl, (Below.refl _ _).alloc (Nat.le_refl _) _⟩
  | false =>
    go_enter Try.func55, Try.ntmps55
    go_wp2
    go_ret
    exact ⟨rfl, (Below.refl _ _).alloc (Nat.le_refl _) _⟩
set_option linter.unusedSimpArgs false in
set_option maxRecDepth 100000 in
set_option maxHeartbeats 4000000 in
theorem part_any (x y q : Int) (b : Bool) (w : World) (h : 0 ≤ x ∧ x < 17179869184) (h2 : 0 ≤ q ∧ q ≤ 17179869184) : Calls Try.prog 65 #[.agg #[.int .i64 x, .int .i64 y, .bool b], .int .i64 q, .int .i64 1] w fun e w' => e = .returned (.agg #[.int .i64 (img (x, y, b) q), .int .i64 1, .bool false]) ∧ Below w.heap.size w w' := by
  have DQ := hid (Blk.alloc (Blk.at_new w (b := w.heap.size) (t := 69) (cs := #[.int .i64 x, .int .i64 y, .bool b]) rfl) (.cells #[.int .i64 0, .int .i64 0, .bool false] 69))
  have ZQ := hid (Blk.at_new (w.alloc (.cells #[.int .i64 x, .int .i64 y, .bool b] 69)) (b := w.heap.size + 1) (t := 69) (cs := #[.int .i64 0, .int .i64 0, .bool false]) (by simp))
  have BQ := hid (((Below.refl w.heap.size w).alloc (Nat.le_refl _) (.cells #[.int .i64 x, .int .i64 y, .bool b] 69)).alloc (by simp) (.cells #[.int .i64 0, .int .i64 0, .bool false] 69))
  go_enter Try.func65, Try.ntmps65
  go_upto_region 1 with fail
  generalize ((w.alloc (.cells #[.int .i64 x, .int .i64 y, .bool b] 69)).alloc (.cells #[.int .i64 0, .int .i64 0, .bool false] 69)) = wq at DQ ZQ BQ ⊢
  cases b with
  | true =>
    refine wp_region_hand (fun w' => Blk w' w.heap.size 69 #[.int .i64 x, .int .i64 y, .bool true] ∧ ∃ zs, Blk w' (w.heap.size + 1) 69 zs) (by kernel_rfl) ?_
    simp only [List.length_cons, List.length_nil, Nat.zero_add, Nat.reduceAdd]
    have hS : Blk wq.drew w.heap.size 69 #[.int .i64 x, .int .i64 y, .bool true] ∧ ∃ zs, Blk wq.drew (w.heap.size + 1) 69 zs := ⟨DQ.out, _, ZQ.out⟩
    refine take_at (i := 0) (v := .agg #[.int .i64 x, .int .i64 y, .bool true]) rfl rfl (by kernel_rfl) (by kernel_rfl) (by kernel_rfl) (fun _ _ _ h => h) (Or.inl ⟨by rfl, fun wi hSw => exec_loads (p := .pointer (some ⟨w.heap.size, 0, none⟩)) rfl rfl (load_blk hSw.1 Try.underlying69 rfl (by kernel_rfl))⟩) hS ?_
    try simp only [List.setIfInBounds_toArray, List.set_cons_zero, List.set_cons_succ]
    refine take_at (i := 1) (v := ?_) rfl rfl (by kernel_rfl) (by kernel_rfl) (by kernel_rfl) (fun _ _ _ h => h) (Or.inl ⟨by rfl, ?_⟩) hS ?_
    rotate_left
    · intro w hSw; (try dsimp only at hSw); go_simp; try with_reducible rfl
    try simp only [List.setIfInBounds_toArray, List.set_cons_zero, List.set_cons_succ]
    refine take_at (i := 3) (v := ?_) rfl rfl (by kernel_rfl) (by kernel_rfl) (by kernel_rfl) (fun _ _ _ h => h) (Or.inl ⟨by rfl, ?_⟩) hS ?_
    rotate_left
    · intro w hSw; (try dsimp only at hSw); go_simp; try with_reducible rfl
    try simp only [List.setIfInBounds_toArray, List.set_cons_zero, List.set_cons_succ]
    refine take_at (i := 4) (v := ?_) rfl rfl (by kernel_rfl) (by kernel_rfl) (by kernel_rfl) (fun _ _ _ h => h) (Or.inl ⟨by rfl, ?_⟩) hS ?_
    rotate_left
    · intro w hSw; (try dsimp only at hSw); go_simp; try with_reducible rfl
    try simp only [List.setIfInBounds_toArray, List.set_cons_zero, List.set_cons_succ]
    refine take_at (i := 5) (v := ?_) rfl rfl (by kernel_rfl) (by kernel_rfl) (by kernel_rfl) (fun _ _ _ h => h) (Or.inl ⟨by rfl, ?_⟩) hS ?_
    rotate_left
    · intro wi hSw; have ci0 := hSw.1.cell; go_simp; try with_reducible rfl
    try simp only [List.setIfInBounds_toArray, List.set_cons_zero, List.set_cons_succ]
    refine wpAnyH_ready (rs := [2]) (by kernel_rfl) (by simp) ?_
    refine AllReadyH.cons rfl (fun K hK => ?_) AllReadyH.nil
    go_simp
    (go_at_call 70; refine (pimg_any x y q true _ h h2).mono ?_; rintro e w5 ⟨rfl, hb⟩; have HB5 := hid (show Below wq.heap.size wq w5 from (Below.drew (Below.refl _ _)).trans hb); have D5 := hid (DQ.out.below HB5.out DQ.out.lt); have Z5 := hid (ZQ.out.below HB5.out ZQ.out.lt); have B5 := hid (BQ.out.trans (HB5.out.mono BQ.out.size)); clear hb hS)
    refine hK.out _ _ ⟨D5.out, _, Z5.out⟩ (fun hS => ?_)
    clear hK K
    try simp only [Act.put, List.setIfInBounds_toArray, List.set_cons_zero, List.set_cons_succ]
    refine take_at (i := 6) (v := ?_) rfl rfl (by kernel_rfl) (by kernel_rfl) (by kernel_rfl) (fun _ _ _ h => h) (Or.inl ⟨by rfl, ?_⟩) hS ?_
    rotate_left
    · intro w hSw; (try dsimp only at hSw); go_simp; try with_reducible rfl
    try simp only [List.setIfInBounds_toArray, List.set_cons_zero, List.set_cons_succ]
    refine take_at (i := 7) (v := ?_) rfl rfl (by kernel_rfl) (by kernel_rfl) (by kernel_rfl) (fun _ _ _ h => h) (Or.inl ⟨by rfl, ?_⟩) hS ?_
    rotate_left
    · intro w hSw; (try dsimp only at hSw); go_simp; try with_reducible rfl
    try simp only [List.setIfInBounds_toArray, List.set_cons_zero, List.set_cons_succ]
    refine take_at (i := 8) (v := .bool false) rfl rfl (by kernel_rfl) (by kernel_rfl) (by kernel_rfl) (fun _ _ _ h => h) (Or.inl ⟨by rfl, ?_⟩) hS ?_
    · intro wi hSw; go_simp; first | done | (simp; done) | (simp; omega)
    try simp only [List.setIfInBounds_toArray, List.set_cons_zero, List.set_cons_succ]
    refine take_at (i := 9) (v := .bool false) rfl rfl (by kernel_rfl) (by kernel_rfl) (by kernel_rfl) (fun _ _ _ h => h) (Or.inl ⟨by rfl, ?_⟩) hS ?_
    · intro wi hSw; go_simp; first | done | (simp; done) | (simp; omega)
    try simp only [List.setIfInBounds_toArray, List.set_cons_zero, List.set_cons_succ]
    refine take_at (i := 10) (v := .agg #[.int .i64 (img (x, y, true) q), .int .i64 1, .bool false]) rfl rfl (by kernel_rfl) (by kernel_rfl) (by kernel_rfl) (fun _ _ _ h => h) (Or.inl ⟨by rfl, fun wi hSw => by go_simp; try with_reducible rfl⟩) hS ?_
    try simp only [List.setIfInBounds_toArray, List.set_cons_zero, List.set_cons_succ]
    refine wpAnyH_ready (rs := [11]) (by kernel_rfl) (by simp) ?_
    refine AllReadyH.cons rfl (fun K hK => ?_) AllReadyH.nil
    refine step_store_blk (t := 69) (e := 69) (cs0 := #[.int .i64 0, .int .i64 0, .bool false]) (cs := #[.int .i64 (img (x, y, true) q), .int .i64 1, .bool false]) Z5.out (by kernel_rfl) rfl (by simp [Value.oneCell']) rfl rfl rfl rfl ?_
    refine hK.out _ _ ⟨Blk.rowOther D5.out (by omega) _, _, Blk.row Z5.out _⟩ (fun hS => ?_)
    clear hK K
    try simp only [List.setIfInBounds_toArray, List.set_cons_zero, List.set_cons_succ]
    refine wpAnyH_done (by kernel_rfl) ?_ _
    simp only [Sure, Exit.then]
    clear hS
    go_wp2
    refine bodyPost_ret (v := .agg #[.int .i64 (img (x, y, true) q), .int .i64 1, .bool false]) (results_cell rfl rfl (Blk.row Z5.out _) Try.underlying69 rfl (by kernel_rfl)) rfl ?_
    exact ⟨rfl, Below.row B5.out (by omega) _⟩
  | false =>
    refine wp_region_hand (fun w' => Blk w' w.heap.size 69 #[.int .i64 x, .int .i64 y, .bool false] ∧ ∃ zs, Blk w' (w.heap.size + 1) 69 zs) (by kernel_rfl) ?_
    simp only [List.length_cons, List.length_nil, Nat.zero_add, Nat.reduceAdd]
    have hS : Blk wq.drew w.heap.size 69 #[.int .i64 x, .int .i64 y, .bool false] ∧ ∃ zs, Blk wq.drew (w.heap.size + 1) 69 zs := ⟨DQ.out, _, ZQ.out⟩
    refine take_at (i := 0) (v := .agg #[.int .i64 x, .int .i64 y, .bool false]) rfl rfl (by kernel_rfl) (by kernel_rfl) (by kernel_rfl) (fun _ _ _ h => h) (Or.inl ⟨by rfl, fun wi hSw => exec_loads (p := .pointer (some ⟨w.heap.size, 0, none⟩)) rfl rfl (load_blk hSw.1 Try.underlying69 rfl (by kernel_rfl))⟩) hS ?_
    try simp only [List.setIfInBounds_toArray, List.set_cons_zero, List.set_cons_succ]
    refine take_at (i := 1) (v := ?_) rfl rfl (by kernel_rfl) (by kernel_rfl) (by kernel_rfl) (fun _ _ _ h => h) (Or.inl ⟨by rfl, ?_⟩) hS ?_
    rotate_left
    · intro w hSw; (try dsimp only at hSw); go_simp; try with_reducible rfl
    try simp only [List.setIfInBounds_toArray, List.set_cons_zero, List.set_cons_succ]
    refine take_at (i := 3) (v := ?_) rfl rfl (by kernel_rfl) (by kernel_rfl) (by kernel_rfl) (fun _ _ _ h => h) (Or.inl ⟨by rfl, ?_⟩) hS ?_
    rotate_left
    · intro w hSw; (try dsimp only at hSw); go_simp; try with_reducible rfl
    try simp only [List.setIfInBounds_toArray, List.set_cons_zero, List.set_cons_succ]
    refine take_at (i := 4) (v := ?_) rfl rfl (by kernel_rfl) (by kernel_rfl) (by kernel_rfl) (fun _ _ _ h => h) (Or.inl ⟨by rfl, ?_⟩) hS ?_
    rotate_left
    · intro w hSw; (try dsimp only at hSw); go_simp; try with_reducible rfl
    try simp only [List.setIfInBounds_toArray, List.set_cons_zero, List.set_cons_succ]
    refine take_at (i := 5) (v := ?_) rfl rfl (by kernel_rfl) (by kernel_rfl) (by kernel_rfl) (fun _ _ _ h => h) (Or.inl ⟨by rfl, ?_⟩) hS ?_
    rotate_left
    · intro wi hSw; have ci0 := hSw.1.cell; go_simp; try with_reducible rfl
    try simp only [List.setIfInBounds_toArray, List.set_cons_zero, List.set_cons_succ]
    refine wpAnyH_ready (rs := [2]) (by kernel_rfl) (by simp) ?_
    refine AllReadyH.cons rfl (fun K hK => ?_) AllReadyH.nil
    go_simp
    (go_at_call 70; refine (pimg_any x y q false _ h h2).mono ?_; rintro e w5 ⟨rfl, hb⟩; have HB5 := hid (show Below wq.heap.size wq w5 from (Below.drew (Below.refl _ _)).trans hb); have D5 := hid (DQ.out.below HB5.out DQ.out.lt); have Z5 := hid (ZQ.out.below HB5.out ZQ.out.lt); have B5 := hid (BQ.out.trans (HB5.out.mono BQ.out.size)); clear hb hS)
    refine hK.out _ _ ⟨D5.out, _, Z5.out⟩ (fun hS => ?_)
    clear hK K
    try simp only [Act.put, List.setIfInBounds_toArray, List.set_cons_zero, List.set_cons_succ]
    refine take_at (i := 6) (v := ?_) rfl rfl (by kernel_rfl) (by kernel_rfl) (by kernel_rfl) (fun _ _ _ h => h) (Or.inl ⟨by rfl, ?_⟩) hS ?_
    rotate_left
    · intro w hSw; (try dsimp only at hSw); go_simp; try with_reducible rfl
    try simp only [List.setIfInBounds_toArray, List.set_cons_zero, List.set_cons_succ]
    refine take_at (i := 7) (v := undef) rfl rfl (by kernel_rfl) (by kernel_rfl) (by kernel_rfl) (fun _ _ _ h => h) (Or.inr ⟨by kernel_rfl, rfl⟩) hS ?_
    try simp only [List.setIfInBounds_toArray, List.set_cons_zero, List.set_cons_succ]
    refine take_at (i := 8) (v := undef) rfl rfl (by kernel_rfl) (by kernel_rfl) (by kernel_rfl) (fun _ _ _ h => h) (Or.inr ⟨by kernel_rfl, rfl⟩) hS ?_
    try simp only [List.setIfInBounds_toArray, List.set_cons_zero, List.set_cons_succ]
    refine take_at (i := 9) (v := .bool false) rfl rfl (by kernel_rfl) (by kernel_rfl) (by kernel_rfl) (fun _ _ _ h => h) (Or.inl ⟨by rfl, ?_⟩) hS ?_
    · intro wi hSw; go_simp; first | done | (simp; done) | (simp; omega)
    try simp only [List.setIfInBounds_toArray, List.set_cons_zero, List.set_cons_succ]
    refine take_at (i := 10) (v := .agg #[.int .i64 (img (x, y, false) q), .int .i64 1, .bool false]) rfl rfl (by kernel_rfl) (by kernel_rfl) (by kernel_rfl) (fun _ _ _ h => h) (Or.inl ⟨by rfl, fun wi hSw => by go_simp; try with_reducible rfl⟩) hS ?_
    try simp only [List.setIfInBounds_toArray, List.set_cons_zero, List.set_cons_succ]
    refine wpAnyH_ready (rs := [11]) (by kernel_rfl) (by simp) ?_
    refine AllReadyH.cons rfl (fun K hK => ?_) AllReadyH.nil
    refine step_store_blk (t := 69) (e := 69) (cs0 := #[.int .i64 0, .int .i64 0, .bool false]) (cs := #[.int .i64 (img (x, y, false) q), .int .i64 1, .bool false]) Z5.out (by kernel_rfl) rfl (by simp [Value.oneCell']) rfl rfl rfl rfl ?_
    refine hK.out _ _ ⟨Blk.rowOther D5.out (by omega) _, _, Blk.row Z5.out _⟩ (fun hS => ?_)
    clear hK K
    try simp only [List.setIfInBounds_toArray, List.set_cons_zero, List.set_cons_succ]
    refine wpAnyH_done (by kernel_rfl) ?_ _
    simp only [Sure, Exit.then]
    clear hS
    go_wp2
    refine bodyPost_ret (v := .agg #[.int .i64 (img (x, y, false) q), .int .i64 1, .bool false]) (results_cell rfl rfl (Blk.row Z5.out _) Try.underlying69 rfl (by kernel_rfl)) rfl ?_
    exact ⟨rfl, Below.row B5.out (by omega) _⟩
set_option linter.unusedSimpArgs false in
set_option maxRecDepth 100000 in
set_option maxHeartbeats 4000000 in
theorem at1_any (x y : Int) (b : Bool) (yb : Nat) (v0 : Int) (w0 w : World) (hB : Below w0.heap.size w0 w) (hy : Blk w yb 3 #[.int .i64 v0]) (hyb : w0.heap.size ≤ yb) : Calls Try.prog 53 #[.agg #[.int .i64 x, .int .i64 y, .bool b], .pointer (some ⟨yb, 0, none⟩)] w fun e w' => e = .returned (.tuple #[]) ∧ Blk w' yb 3 #[.int .i64 x] ∧ Below w0.heap.size w0 w' ∧ ∀ (j : Nat) (t : TypeId) (cs : Array Value), j ≠ yb → Blk w j t cs → Blk w' j t cs := by
  have C := (Blk.at_new w (b := w.heap.size) (t := 69) (cs := #[.int .i64 x, .int .i64 y, .bool b]) rfl).cell
  have Y := (Blk.alloc hy (.cells #[.int .i64 x, .int .i64 y, .bool b] 69)).cell
  have FZ := (Blk.alloc hy (.cells #[.int .i64 x, .int .i64 y, .bool b] 69)).frozen
  have BB := hid hB
  have YY := hid hy
  clear hB hy
  go_enter Try.func53, Try.ntmps53
  go_wp2
  go_end0
  exact ⟨rfl, Blk.set (Blk.alloc YY.out _) 0 _, Below.setCell (BB.out.alloc BB.out.size _) hyb _, fun j t cs hj hc => Blk.other (Blk.alloc hc _) (a := ⟨yb, 0, none⟩) hj _⟩
theorem imgAt_drop : ∀ (m : List Ru) (x : Int) (k : Nat), (∀ r ∈ m, runOk r = true) → lenR (m.take k) ≤ x → imgAt m x = imgAt (m.drop k) (x - lenR (m.take k))
  | [], x, k, _, _ => by simp [imgAt]
  | r :: m, x, 0, _, _ => by simp [lenR]
  | (X, Y, b) :: m, x, k + 1, h, hx => by
    have h0 := (run_yes (h (X, Y, b) (by simp))).1
    have hm : ∀ r ∈ m, runOk r = true := fun r hr => h r (by simp [hr])
    have h1 := (lenR_pos (m := m.take k) (fun r hr => hm r (List.mem_of_mem_take hr))).1
    simp only [List.take_succ_cons, lenR] at hx ⊢
    rw [List.drop_succ_cons]
    simp only [imgAt]
    rw [if_neg (by omega), imgAt_drop m (x - Y) k hm (by omega)]
    congr 1
    omega
theorem imgAt_in {m : List Ru} {x : Int} {k : Nat} {r : Ru} (h : ∀ r ∈ m, runOk r = true) (hr : m[k]? = some r) (h1 : lenR (m.take k) ≤ x) (h2 : x < lenR (m.take k) + r.2.1) : imgAt m x = some (img r (x - lenR (m.take k))) := by
  rw [imgAt_drop m x k h h1]
  obtain ⟨a1, a2⟩ := List.getElem?_eq_some_iff.1 hr
  rw [List.drop_eq_getElem_cons a1, a2]
  simp only [imgAt]
  rw [if_pos (by omega)]
set_option linter.unusedSimpArgs false in
set_option maxRecDepth 100000 in
set_option maxHeartbeats 4000000 in
theorem each_any (a : Option Addr) (c n yb : Nat) (m : List Ru) (x : Int) (w0 w : World) (r : Rds Nn w0 3 a n (cellsR m)) (hn : n = m.length) (hg : n ≤ 256) (ho : ∀ r ∈ m, runOk r = true) (hl : lenR m ≤ 17179869184) (hx : 0 ≤ x ∧ x < lenR m) (hB : Below w0.heap.size w0 w) (hy : Blk w yb 3 #[.int .i64 0]) (hyb : w0.heap.size ≤ yb) : Calls Try.prog 52 #[.slice a n c, .int .i64 x, .int .i64 (x + 1), .func (.func 53) #[] #[.pointer (some ⟨yb, 0, none⟩)]] w fun e w' => e = .returned (.tuple #[]) ∧ Blk w' yb 3 #[.int .i64 ((imgAt m x).getD 0)] ∧ Below w0.heap.size w0 w' := by
  have R1 := hid r
  have HN := hid hn
  have HO := hid ho
  have YY := hid hy
  have B0 := hid hB
  have HL := hid hl
  obtain ⟨hx1, hx2⟩ := hx
  have HX2 := hid hx2
  clear r hn ho hy hB hl
  go_enter Try.func52, Try.ntmps52
  go_wp2
  go_loopw [8, 15] (fun s i wr => ∃ (k : Nat) (q v : Int), k ≤ n ∧ i = .int .i64 k ∧ s = .int .i64 q ∧ q = lenR (m.take k) ∧ (0 ≤ q ∧ q ≤ k * 17179869184) ∧ (x < q → v = (imgAt m x).getD 0) ∧ Blk wr yb 3 #[.int .i64 v] ∧ Below w0.heap.size w0 wr) (fun _ i _ => n - (intOf i).toNat)
  case atStart => exact ⟨0, 0, 0, Nat.zero_le _, rfl, rfl, rfl, by omega, fun h => by omega, YY.out, B0.out⟩
  case round =>
    obtain ⟨k, q, v, hk, rfl, rfl, hq, ⟨hq1, hq2⟩, hv, hyw, hbel⟩ := hrel
    have HQ := hid hq
    have HV := hid hv
    have YW := hid hyw
    have BB := hid hbel
    clear hq hbel hv hyw
    by_cases hlt : k < n
    · obtain ⟨p1, o1, X, Y, b, rfl, _, hr, hc⟩ := run_at R1.out HN.out hlt
      obtain ⟨e1, e2, e3⟩ := hc _ BB.out
      have HR := hid hr
      have LS := hid (lenR_snoc hr)
      have OK := run_yes (HO.out _ (List.mem_of_getElem? hr))
      obtain ⟨⟨g1, g2⟩, ⟨g3, g4⟩, _, _⟩ := OK
      clear hc hr
      have ws : IntKind.i64.wrap (q + Y) = q + Y := IntWalk.i64_in _ (by omega)
      have wx : IntKind.i64.wrap (x + 1) = x + 1 := IntWalk.i64_in _ (by have := HX2.out; have := HL.out; omega)
      have CR := (Blk.at_new wr (b := wr.heap.size) (t := 69) (cs := #[.int .i64 X, .int .i64 Y, .bool b]) rfl).cell
      go_upto_region 4 with fail
      have DR := hid (Blk.at_new wr (b := wr.heap.size) (t := 69) (cs := #[.int .i64 X, .int .i64 Y, .bool b]) rfl)
      have YD := hid (Blk.alloc YW.out (.cells #[.int .i64 X, .int .i64 Y, .bool b] 69))
      have BD := hid (BB.out.alloc BB.out.size (.cells #[.int .i64 X, .int .i64 Y, .bool b] 69))
      clear CR e1 e2 e3
      generalize (wr.alloc (.cells #[.int .i64 X, .int .i64 Y, .bool b] 69)) = wz at DR YD BD ⊢
      obtain ⟨rb, hrb⟩ : ∃ rb, wr.heap.size = rb := ⟨_, rfl⟩
      rw [hrb] at DR
      try rw [hrb]
      have hne : rb ≠ yb := by have := YW.out.lt; omega
      clear hrb
      have CR := DR.out.cell
      by_cases h1 : x < q
      · have m1 : max x q = q := by omega
        have m2 : min (x + 1) (q + Y) = x + 1 := by omega
        have h2 : ¬ q < x + 1 := by omega
        have VE := hid (HV.out h1)
        go_quiet (fail)
        go_wp2
        go_roundw
        case rel => exact ⟨k + 1, q + Y, v, by omega, by go_num, by go_num, by rw [LS.out, ← HQ.out], by push_cast; omega, fun _ => VE.out, Blk.drewN YD.out _, below_drewN BD.out _⟩
        case measure => simp [intOf] <;> omega
      · by_cases h3 : x < q + Y
        · have m1 : max x q = x := by omega
          have m2 : min (x + 1) (q + Y) = x + 1 := by omega
          have w4 : IntKind.i64.wrap (x - q) = x - q := IntWalk.i64_in _ (by omega)
          have w5 : IntKind.i64.wrap (x + 1 - x) = 1 := by rw [show x + 1 - x = 1 by omega]; rfl
          have IM : Hid (img (X, Y, b) (x - q) = (imgAt m x).getD 0) := hid (by rw [imgAt_in HO.out HR.out (by rw [← HQ.out]; omega) (by rw [← HQ.out]; omega), HQ.out]; rfl)
          go_quiet (fail)
          have DR2 := hid (Blk.drewN DR.out nq)
          have YD2 := hid (Blk.drewN YD.out nq)
          have BD2 := hid (below_drewN BD.out nq)
          generalize (wz.drewN nq) = wy at DR2 YD2 BD2 ⊢
          clear CR
          have CR := DR2.out.cell
          go_wp2_with fail
          refine (part_any X Y (x - q) b _ (by omega) (by omega)).mono ?_
          rintro e w5 ⟨rfl, hb⟩
          have DR5 := hid (DR2.out.below hb DR2.out.lt)
          have YD5 := hid (YD2.out.below hb YD2.out.lt)
          have BD5 := hid (BD2.out.trans (hb.mono BD2.out.size))
          clear hb CR
          go_wp2_with fail
          refine (at1_any (img (X, Y, b) (x - q)) 1 false yb v w0 _ BD5.out YD5.out hyb).mono ?_
          rintro e w6 ⟨rfl, hy6, hb6, hkeep⟩
          have YD6 := hid hy6
          have BD6 := hid hb6
          have CR := (hkeep rb _ _ hne DR5.out).cell
          clear hy6 hb6 hkeep
          go_wp2
          go_roundw
          case rel => exact ⟨k + 1, q + Y, img (X, Y, b) (x - q), by omega, by go_num, by go_num, by rw [LS.out, ← HQ.out], by push_cast; omega, fun _ => IM.out, YD6.out, BD6.out⟩
          case measure => simp [intOf] <;> omega
        · have m1 : max x q = x := by omega
          have m2 : min (x + 1) (q + Y) = q + Y := by omega
          have h2 : ¬ x < q + Y := by omega
          go_quiet (fail)
          go_wp2
          go_roundw
          case rel => exact ⟨k + 1, q + Y, v, by omega, by go_num, by go_num, by rw [LS.out, ← HQ.out], by push_cast; omega, fun h => by omega, Blk.drewN YD.out _, below_drewN BD.out _⟩
          case measure => simp [intOf] <;> omega
    · obtain rfl : k = n := by omega
      have QE : Hid (q = lenR m) := hid (by rw [HQ.out, List.take_of_length_le (by rw [← HN.out]; exact Nat.le_refl _)])
      have VE := hid (HV.out (by rw [QE.out]; exact HX2.out))
      go_wp2
      go_end0
      exact ⟨rfl, by rw [← VE.out]; exact YW.out, BB.out⟩
def AtPost (m : List Ru) (x : Int) (w : World) : Ending → World → Prop := fun e w' => e = .returned (.tuple #[.int .i64 (atV m x), .int .i64 (atErr m x)]) ∧ Below w.heap.size w w'
theorem at_no {m : List Ru} {x y : Int} {w w' : World} (h : y = atErr m x) (h0 : y ≠ 0) (hb : Below w.heap.size w w') : AtPost m x w (.returned (.tuple #[.int .i64 0, .int .i64 y])) w' := by
  subst h
  unfold AtPost atV
  rw [if_neg h0]
  exact ⟨rfl, hb⟩
theorem at_ok {m : List Ru} {x y : Int} {w w' : World} (h : atErr m x = 0) (h0 : y = (imgAt m x).getD 0) (hb : Below w.heap.size w w') : AtPost m x w (.returned (.tuple #[.int .i64 y, .int .i64 0])) w' := by
  subst h0
  unfold AtPost atV
  rw [if_pos h, h]
  exact ⟨rfl, hb⟩
theorem ae_bad {m : List Ru} {x : Int} (h : runErr m ≠ 0) : runErr m = atErr m x := by unfold atErr; rw [if_pos h]
theorem ae_1 {m : List Ru} {x : Int} (h : runErr m = 0) (hx : ¬ (0 ≤ x ∧ x < lenR m)) : 1 = atErr m x := by unfold atErr; rw [if_neg (fun e => e h), if_neg hx]
theorem ae_0 {m : List Ru} {x : Int} (h : runErr m = 0) (hx : 0 ≤ x ∧ x < lenR m) : atErr m x = 0 := by unfold atErr; rw [if_neg (fun e => e h), if_pos hx]
set_option linter.unusedSimpArgs false in
set_option maxRecDepth 100000 in
set_option maxHeartbeats 4000000 in
theorem pat_any (a : Option Addr) (c n : Nat) (m : List Ru) (w : World) (r : Rds Nn w 3 a n (cellsR m)) (hn : n = m.length) (hl : n ≤ maxLen) (x : Int) : Calls Try.prog 41 #[.slice a n c, .int .i64 x] w (AtPost m x w) := by
  have R1 := hid r
  have HN := hid hn
  clear r hn
  go_enter Try.func41, Try.ntmps41
  go_wp2_with fail
  refine (pcheckR_any a c n m _ R1.out HN.out hl).mono ?_
  rintro e w1 ⟨rfl, hb⟩
  have B1 := hid hb
  clear hb
  by_cases hz : runErr m = 0
  rotate_left
  · have hz2 : (runErr m != 0) = true := by simpa using hz
    have RE := hid (ae_bad (x := x) hz)
    have HZ := hid hz
    clear hz
    go_wp2
    go_ret2
    exact at_no RE.out HZ.out B1.out
  have HZ := hid hz
  have OK := hid (re_ok hz)
  rw [hz]
  clear hz
  have n256 : n ≤ 256 := by rw [HN.out]; exact OK.out.1
  have hmf : ∀ (fn : Fn) (first cap : Array Value) (w : World), (Instr.makeFunc fn first cap).run Try.prog w = .ok (.func fn first cap) w := fun _ _ _ _ => rfl
  by_cases hx0 : x < 0
  · have RE := hid (ae_1 (x := x) HZ.out (by omega))
    go_wp2_with fail
    go_ret2
    exact at_no RE.out (by decide) B1.out
  go_wp2_with fail
  refine (plen_any a c n m _ (R1.out.below B1.out) HN.out n256 OK.out.2.1).mono ?_
  rintro e w2 ⟨rfl, hb⟩
  have B2 := hid (B1.out.trans (hb.mono B1.out.size))
  clear hb
  obtain ⟨LN, hLN⟩ : ∃ LN, lenR m = LN := ⟨_, rfl⟩
  have HLN := hid hLN
  rw [hLN]
  clear hLN
  by_cases hx1 : LN ≤ x
  · have RE := hid (ae_1 (x := x) HZ.out (by rw [HLN.out]; omega))
    go_wp2
    go_ret2
    exact at_no RE.out (by decide) B2.out
  have RE := hid (ae_0 (x := x) HZ.out (by rw [HLN.out]; omega))
  have wx : IntKind.i64.wrap (x + 1) = x + 1 := IntWalk.i64_in _ (by have h1 := OK.out.2.2; rw [HLN.out] at h1; omega)
  go_wp2_with fail
  refine (each_any a c n w2.heap.size m x w _ R1.out HN.out n256 OK.out.2.1 OK.out.2.2 (by rw [HLN.out]; omega) (B2.out.alloc B2.out.size _) (Blk.at_new _ rfl) B2.out.size).mono ?_
  rintro e w3 ⟨rfl, hy, hb⟩
  have CY := hy.cell
  have B3 := hid hb
  clear hb hmf
  go_wp2
  go_ret2
  exact at_ok RE.out rfl B3.out
def PlI (m : List Ru) (x i q : Int) : Prop := (i = -1 ∧ ¬ (0 ≤ x ∧ x < lenR m)) ∨ (∃ (k : Nat) (r : Ru), i = (k : Int) ∧ m[k]? = some r ∧ q = x - lenR (m.take k) ∧ lenR (m.take k) ≤ x ∧ x < lenR (m.take k) + r.2.1 ∧ 0 ≤ x ∧ x < lenR m)
theorem imgAt_none : ∀ (m : List Ru) (x : Int), (∀ r ∈ m, runOk r = true) → lenR m ≤ x → imgAt m x = none
  | [], x, _, _ => rfl
  | (X, Y, b) :: m, x, h, hx => by
    have h0 := (run_yes (h (X, Y, b) (by simp))).1
    have hm : ∀ r ∈ m, runOk r = true := fun r hr => h r (by simp [hr])
    have h1 := (lenR_pos hm).1
    simp only [lenR] at hx
    simp only [imgAt]
    rw [if_neg (by omega), imgAt_none m (x - Y) hm (by omega)]
set_option linter.unusedSimpArgs false in
set_option maxRecDepth 100000 in
set_option maxHeartbeats 4000000 in
theorem place13_any (a : Option Addr) (c n : Nat) (m : List Ru) (w : World) (r : Rds Nn w 3 a n (cellsR m)) (hn : n = m.length) (hg : n ≤ 256) (ho : ∀ r ∈ m, runOk r = true) (x : Int) (hx : x < 9223372036854775808) : Calls Try.prog 54 #[.slice a n c, .int .i64 x] w fun e w' => (∃ (i q : Int), e = .returned (.tuple #[.int .i64 i, .int .i64 q]) ∧ PlI m x i q) ∧ Below w.heap.size w w' := by
  have R1 := hid r
  have HN := hid hn
  clear r hn
  have HO := hid ho
  clear ho
  have HX9 := hid hx
  by_cases hx0 : x < 0
  · have NO : Hid (¬ (0 ≤ x ∧ x < lenR m)) := hid (by omega)
    clear HO
    cases n with
    | zero =>
      go_enter Try.func54, Try.ntmps54
      go_wp2
      go_loopw [1, 6] (fun y i wr => y = .int .i64 x ∧ i = .int .i64 0 ∧ wr = w) (fun _ _ _ => 0)
      case atStart => exact ⟨rfl, rfl, rfl⟩
      case round =>
        obtain ⟨rfl, rfl, rfl⟩ := hrel
        go_wp2
        go_ret2
        exact ⟨⟨_, _, rfl, .inl ⟨rfl, NO.out⟩⟩, Below.refl _ _⟩
    | succ n =>
      go_enter Try.func54, Try.ntmps54
      go_wp2
      go_loopw [1, 6] (fun y i wr => y = .int .i64 x ∧ i = .int .i64 0 ∧ wr = w) (fun _ _ _ => 0)
      case atStart => exact ⟨rfl, rfl, rfl⟩
      case round =>
        obtain ⟨rfl, rfl, rfl⟩ := hrel
        go_wp2
        go_ret2
        exact ⟨⟨_, _, rfl, .inl ⟨rfl, NO.out⟩⟩, Below.refl _ _⟩
  go_enter Try.func54, Try.ntmps54
  go_wp2
  go_loopw [1, 6] (fun y i wr => ∃ (k : Nat) (z : Int), k ≤ n ∧ i = .int .i64 k ∧ y = .int .i64 z ∧ z = x - lenR (m.take k) ∧ 0 ≤ z ∧ z ≤ x ∧ Below w.heap.size w wr) (fun _ i _ => n - (intOf i).toNat)
  case atStart => exact ⟨0, x, Nat.zero_le _, rfl, rfl, by simp [lenR], by omega, by omega, Below.refl _ _⟩
  case round =>
    obtain ⟨k, z, hk, rfl, rfl, hz, hz1, hz2, hbel⟩ := hrel
    have HZ := hid hz
    have BB := hid hbel
    clear hz hbel
    by_cases hlt : k < n
    · obtain ⟨p1, o1, X, Y, b, rfl, _, hr, hc⟩ := run_at R1.out HN.out hlt
      obtain ⟨e1, e2, e3⟩ := hc _ BB.out
      have HR := hid hr
      have LS := hid (lenR_snoc hr)
      obtain ⟨⟨g1, g2⟩, _, _, _⟩ := run_yes (HO.out _ (List.mem_of_getElem? hr))
      have SP := hid (lenR_split m (k + 1))
      have DP := hid (lenR_pos (m := m.drop (k + 1)) (fun r hr => HO.out r (List.mem_of_mem_drop hr)))
      clear hc hr
      have wz : IntKind.i64.wrap (z - Y) = z - Y := IntWalk.i64_in _ (by omega)
      by_cases hzY : z < Y
      · have RES : Hid (PlI m x k z) := hid (.inr ⟨k, _, rfl, HR.out, HZ.out, by have := HZ.out; omega, by have := HZ.out; show x < lenR (m.take k) + Y; omega, by omega, by have h1 := HZ.out; have h2 := LS.out; have h3 := SP.out; have h4 := DP.out.1; simp only at h2; omega⟩)
        go_wp2
        go_ret2
        exact ⟨⟨_, _, rfl, RES.out⟩, BB.out⟩
      · go_wp2
        go_roundw
        case rel => exact ⟨k + 1, z - Y, by omega, by go_num, by go_num, by rw [LS.out, HZ.out]; show _ = x - (lenR (m.take k) + Y); omega, by omega, by omega, BB.out⟩
        case measure => simp [intOf] <;> omega
    · obtain rfl : k = n := by omega
      have NO : Hid (¬ (0 ≤ x ∧ x < lenR m)) := hid (by have h1 := HZ.out; rw [List.take_of_length_le (by rw [← HN.out]; exact Nat.le_refl _)] at h1; omega)
      go_wp2
      go_ret2
      exact ⟨⟨_, _, rfl, .inl ⟨rfl, NO.out⟩⟩, BB.out⟩
set_option linter.unusedSimpArgs false in
set_option maxRecDepth 100000 in
set_option maxHeartbeats 4000000 in
theorem rat_any (a : Option Addr) (c n : Nat) (m : List Ru) (w : World) (r : Rds Nn w 3 a n (cellsR m)) (hn : n = m.length) (hl : n ≤ maxLen) (x : Int) (hx9 : x < 9223372036854775808) : Calls Try.prog 42 #[.slice a n c, .int .i64 x] w (AtPost m x w) := by
  have R1 := hid r
  have HN := hid hn
  clear r hn
  go_enter Try.func42, Try.ntmps42
  go_wp2_with fail
  refine (rcheckR_any a c n m _ R1.out HN.out hl).mono ?_
  rintro e w1 ⟨rfl, hb⟩
  have B1 := hid hb
  clear hb
  by_cases hz : runErr m = 0
  rotate_left
  · have hz2 : (runErr m != 0) = true := by simpa using hz
    have RE := hid (ae_bad (x := x) hz)
    have HZ := hid hz
    clear hz
    go_wp2
    go_ret2
    exact at_no RE.out HZ.out B1.out
  have HZ := hid hz
  have OK := hid (re_ok hz)
  rw [hz]
  clear hz
  have n256 : n ≤ 256 := by rw [HN.out]; exact OK.out.1
  go_wp2_with fail
  refine (place13_any a c n m _ (R1.out.below B1.out) HN.out n256 OK.out.2.1 x hx9).mono ?_
  rintro e w2 ⟨⟨i, q, rfl, hi⟩, hb⟩
  have B2 := hid (B1.out.trans (hb.mono B1.out.size))
  clear hb
  rcases hi with ⟨rfl, hno⟩ | ⟨k, r, rfl, hr, hq, h1, h2, h3, h4⟩
  · have RE := hid (ae_1 (x := x) HZ.out hno)
    clear hno
    go_wp2
    go_ret2
    exact at_no RE.out (by decide) B2.out
  have RE := hid (ae_0 (x := x) HZ.out ⟨h3, h4⟩)
  have IM := hid (imgAt_in OK.out.2.1 hr h1 h2)
  have hkn : k < n := by rw [HN.out]; exact (List.getElem?_eq_some_iff.1 hr).1
  obtain ⟨p1, o1, X, Y, b, rfl, _, hr2, hc⟩ := run_at R1.out HN.out hkn
  obtain ⟨e1, e2, e3⟩ := hc _ B2.out
  rw [hr2] at hr
  injection hr with hr
  subst hr
  have OY := run_yes (OK.out.2.1 _ (List.mem_of_getElem? hr2))
  obtain ⟨⟨g1, g2⟩, ⟨g3, g4⟩, _, _⟩ := OY
  have q0 : 0 ≤ q ∧ q ≤ 17179869184 := by rw [hq]; simp only at h2; omega
  have HQ := hid hq
  clear hc hr2 hq h1 h2 h3 h4
  go_wp2_with fail
  refine (rimg_any X Y q b _ (by omega) q0).mono ?_
  rintro e w3 ⟨rfl, hb⟩
  have B3 := hid (B2.out.trans (hb.mono B2.out.size))
  clear hb e1 e2 e3
  go_wp2
  go_ret2
  exact at_ok RE.out (by rw [IM.out, HQ.out]; rfl) B3.out
end Go.Proofs.Ytccgbojcghbdcaa
