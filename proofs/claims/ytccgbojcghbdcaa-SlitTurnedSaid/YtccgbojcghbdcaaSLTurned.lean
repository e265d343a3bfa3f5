/- SlitTurned: for every input the law returns true. No condition. -/
import Derived.Test.YtccgbojcghbdcaaLaw39
namespace Go.Proofs.Ytccgbojcghbdcaa
open Go.RowKit

theorem tw_pl {l wd : Int} {m : List Ru} {q y : Int} (h : tuErr l wd m = 0) (hq : 0 ≤ q ∧ q < wd) (t : Bool) : plErr l wd m (wd - 1 - q) y = plErr l wd m q y ∧ plU l wd (!t) m (wd - 1 - q) y = plU l wd t m q y ∧ plV l wd m (wd - 1 - q) y = plV l wd m q y := by
  have e1 : plErr l wd m q y = atErr m y := by unfold plErr; rw [if_neg (fun e => e h), if_pos hq]
  have e2 : plErr l wd m (wd - 1 - q) y = atErr m y := by unfold plErr; rw [if_neg (fun e => e h), if_pos (by omega)]
  refine ⟨e2.trans e1.symm, ?_, ?_⟩
  · unfold plU
    rw [e1, e2]
    split
    · cases t
      · simp; omega
      · simp
    · rfl
  · unfold plV
    rw [e1, e2]
set_option linter.unusedSimpArgs false in
set_option maxRecDepth 100000 in
set_option maxHeartbeats 16000000 in
theorem slitTurned_true (l wd : Int) (a : Option Addr) (c n : Nat) (m : List Ru) (x y : Int) (w : World) (r : Rds Nn w 3 a n (cellsR m)) (hn : n = m.length) (hl : n ≤ maxLen) : Calls Try.prog 9 #[.agg #[.int .i64 l, .int .i64 wd, .bool true, .slice a n c], .int .i64 x, .int .i64 y] w fun e w' => e = .returned (.bool true) ∧ Below w.heap.size w w' := by
  have R1 := hid r
  have HN := hid hn
  clear r hn
  have D0 := hid (Blk.at_new w (b := w.heap.size) (t := 47) (cs := #[.int .i64 l, .int .i64 wd, .bool true, .slice a n c]) rfl)
  have B0 := hid ((Below.refl w.heap.size w).alloc (Nat.le_refl _) (.cells #[.int .i64 l, .int .i64 wd, .bool true, .slice a n c] 47))
  have c0 := D0.out.cell
  go_enter Try.func9, Try.ntmps9
  by_cases h20 : n ≤ 300
  rotate_left
  · have h21 : ((300 : Int) < n) := by omega
    go_wp2_with fail
    refine (awake_any _).mono ?_
    rintro e wz ⟨rfl, hb⟩
    go_wp2
    go_ret
    exact ⟨rfl, B0.out.trans (hb.mono B0.out.size)⟩
  have h21 : ¬ ((300 : Int) < n) := by omega
  go_wp2_with (refine wpList_load_blk2 (t := 47) rfl rfl rfl Try.underlying47 rfl (by kernel_rfl) D0.out ?_)
  refine (turned_any l wd true a c n m _ (R1.out.below B0.out) HN.out hl).mono ?_
  rintro e w1 ⟨hcase, hb⟩
  have B1 := hid (B0.out.trans (hb.mono B0.out.size))
  have D1 := hid (D0.out.below hb D0.out.lt)
  clear hb c0
  rcases hcase with ⟨hz, rfl⟩ | ⟨hz, A1, c1, rfl, hr⟩
  · have hz2 : (tuErr l wd m != 0) = true := by simpa using hz
    have hz3 : ¬ tuErr l wd m = 0 := hz
    have XZ := hid (Blk.at_new w1 (b := w1.heap.size) (t := 47) (cs := #[.int .i64 0, .int .i64 0, .bool false, .slice none 0 0]) rfl)
    have BZ := hid (B1.out.alloc B1.out.size (.cells #[.int .i64 0, .int .i64 0, .bool false, .slice none 0 0] 47))
    have cz := XZ.out.cell
    clear hz
    go_wp2_with fail
    refine (awake_any _).mono ?_
    rintro e wz ⟨rfl, hb⟩
    go_wp2
    go_ret
    exact ⟨rfl, BZ.out.trans (hb.mono BZ.out.size)⟩
  have HZ := hid hz
  have RA := hid hr
  obtain ⟨⟨k1, k2, k3, k4⟩, _⟩ := tu_ok2 hz
  simp only [Bool.not_true, Bool.not_false]
  clear hz hr
  have XA := hid (Blk.at_new w1 (b := w1.heap.size) (t := 47) (cs := #[.int .i64 l, .int .i64 wd, .bool false, .slice A1 n c1]) rfl)
  have B2 := hid (B1.out.alloc B1.out.size (.cells #[.int .i64 l, .int .i64 wd, .bool false, .slice A1 n c1] 47))
  have D2 := hid (Blk.alloc D1.out (.cells #[.int .i64 l, .int .i64 wd, .bool false, .slice A1 n c1] 47))
  have RA2 := hid (RA.out.allocK' (.cells #[.int .i64 l, .int .i64 wd, .bool false, .slice A1 n c1] 47))
  clear D1 B1
  go_wp2_with (refine wpList_load_blk2 (t := 47) rfl rfl rfl Try.underlying47 rfl (by kernel_rfl) XA.out ?_)
  refine (turned_any l wd false A1 c1 n m _ RA2.out HN.out hl).mono ?_
  rintro e w3 ⟨hcase, hb⟩
  have B3 := hid (B2.out.trans (hb.mono B2.out.size))
  have D3 := hid (D2.out.below hb D2.out.lt)
  have XA3 := hid (XA.out.below hb XA.out.lt)
  have RA3 := hid (RA2.out.below hb)
  clear hb
  rcases hcase with ⟨hz, rfl⟩ | ⟨hz, A2, c2, rfl, hr⟩
  · exact absurd HZ.out hz
  have RB := hid hr
  simp only [Bool.not_true, Bool.not_false]
  clear hz hr D2 XA RA2 RA
  have XB := hid (Blk.at_new w3 (b := w3.heap.size) (t := 47) (cs := #[.int .i64 l, .int .i64 wd, .bool true, .slice A2 n c2]) rfl)
  have B4 := hid (B3.out.alloc B3.out.size (.cells #[.int .i64 l, .int .i64 wd, .bool true, .slice A2 n c2] 47))
  have D4 := hid (Blk.alloc D3.out (.cells #[.int .i64 l, .int .i64 wd, .bool true, .slice A2 n c2] 47))
  have XA4 := hid (Blk.alloc XA3.out (.cells #[.int .i64 l, .int .i64 wd, .bool true, .slice A2 n c2] 47))
  have RA4 := hid (RA3.out.allocK' (.cells #[.int .i64 l, .int .i64 wd, .bool true, .slice A2 n c2] 47))
  have RB4 := hid (RB.out.allocK' (.cells #[.int .i64 l, .int .i64 wd, .bool true, .slice A2 n c2] 47))
  clear B3 D3 XA3 RA3 RB
  have c4 := D4.out.cell
  go_wp2_with fail
  refine (child_any l wd l wd true true A2 a c2 c n n m m _ RB4.out (R1.out.below B4.out) HN.out HN.out (by omega)).mono ?_
  rintro e w5 ⟨rfl, hb⟩
  have B5 := hid (B4.out.trans (hb.mono B4.out.size))
  have D5 := hid (D4.out.below hb D4.out.lt)
  have XA5 := hid (XA4.out.below hb XA4.out.lt)
  have RA5 := hid (RA4.out.below hb)
  clear hb c4
  rw [show decide (((l, wd, true, m) : Ch) = (l, wd, true, m)) = true from decide_eq_true rfl]
  have c5 := D5.out.cell
  have cx5 := XA5.out.cell
  go_wp2_with fail
  refine (same3_any A1 a c1 c n n m m _ RA5.out (R1.out.below B5.out) HN.out HN.out (by omega)).mono ?_
  rintro e w6 ⟨rfl, hb⟩
  have B6 := hid (B5.out.trans (hb.mono B5.out.size))
  have D6 := hid (D5.out.below hb D5.out.lt)
  have XA6 := hid (XA5.out.below hb XA5.out.lt)
  have RA6 := hid (RA5.out.below hb)
  clear hb c5 cx5 D5 XA5 RA5
  rw [show decide (m = m) = true from decide_eq_true rfl]
  have c6 := D6.out.cell
  have hmx : max (1 : Int) wd = wd := by omega
  go_wp2_with fail
  try rw [hmx]
  refine (pick_any x wd _ (by omega)).mono ?_
  rintro e w7 ⟨q, rfl, hq, rfl⟩
  have HQ := hid hq
  obtain ⟨q1, q2⟩ := hq
  have v1 : IntKind.i64.wrap (wd - 1) = wd - 1 := IntWalk.i64_in _ (by omega)
  have v2 : IntKind.i64.wrap (wd - 1 - q) = wd - 1 - q := IntWalk.i64_in _ (by omega)
  go_wp2_with (refine wpList_load_blk2 (t := 47) rfl rfl rfl Try.underlying47 rfl (by kernel_rfl) D6.out ?_)
  refine (place_any l wd true a c n m _ (R1.out.below B6.out) HN.out hl q y).mono ?_
  rintro e w8 ⟨rfl, hb⟩
  have B8 := hid (B6.out.trans (hb.mono B6.out.size))
  have D8 := hid (D6.out.below hb D6.out.lt)
  have XA8 := hid (XA6.out.below hb XA6.out.lt)
  have RA8 := hid (RA6.out.below hb)
  clear hb c6
  have c8 := D8.out.cell
  go_wp2_with (refine wpList_load_blk2 (t := 47) rfl rfl rfl Try.underlying47 rfl (by kernel_rfl) XA8.out ?_)
  refine (place_any l wd false A1 c1 n m _ RA8.out HN.out hl (wd - 1 - q) y).mono ?_
  rintro e w9 ⟨rfl, hb⟩
  have B9 := hid (B8.out.trans (hb.mono B8.out.size))
  clear hb c8
  obtain ⟨t1, t2, t3⟩ := tw_pl (y := y) HZ.out HQ.out true
  simp only [Bool.not_true, Bool.not_false] at t2
  rw [t1, t2, t3]
  clear t1 t2 t3
  go_wp2_with fail
  refine (awake_any _).mono ?_
  rintro e wz ⟨rfl, hb⟩
  go_wp2
  go_ret
  exact ⟨rfl, B9.out.trans (hb.mono B9.out.size)⟩
set_option linter.unusedSimpArgs false in
set_option maxRecDepth 100000 in
set_option maxHeartbeats 16000000 in
theorem slitTurned_false (l wd : Int) (a : Option Addr) (c n : Nat) (m : List Ru) (x y : Int) (w : World) (r : Rds Nn w 3 a n (cellsR m)) (hn : n = m.length) (hl : n ≤ maxLen) : Calls Try.prog 9 #[.agg #[.int .i64 l, .int .i64 wd, .bool false, .slice a n c], .int .i64 x, .int .i64 y] w fun e w' => e = .returned (.bool true) ∧ Below w.heap.size w w' := by
  have R1 := hid r
  have HN := hid hn
  clear r hn
  have D0 := hid (Blk.at_new w (b := w.heap.size) (t := 47) (cs := #[.int .i64 l, .int .i64 wd, .bool false, .slice a n c]) rfl)
  have B0 := hid ((Below.refl w.heap.size w).alloc (Nat.le_refl _) (.cells #[.int .i64 l, .int .i64 wd, .bool false, .slice a n c] 47))
  have c0 := D0.out.cell
  go_enter Try.func9, Try.ntmps9
  by_cases h20 : n ≤ 300
  rotate_left
  · have h21 : ((300 : Int) < n) := by omega
    go_wp2_with fail
    refine (awake_any _).mono ?_
    rintro e wz ⟨rfl, hb⟩
    go_wp2
    go_ret
    exact ⟨rfl, B0.out.trans (hb.mono B0.out.size)⟩
  have h21 : ¬ ((300 : Int) < n) := by omega
  go_wp2_with (refine wpList_load_blk2 (t := 47) rfl rfl rfl Try.underlying47 rfl (by kernel_rfl) D0.out ?_)
  refine (turned_any l wd false a c n m _ (R1.out.below B0.out) HN.out hl).mono ?_
  rintro e w1 ⟨hcase, hb⟩
  have B1 := hid (B0.out.trans (hb.mono B0.out.size))
  have D1 := hid (D0.out.below hb D0.out.lt)
  clear hb c0
  rcases hcase with ⟨hz, rfl⟩ | ⟨hz, A1, c1, rfl, hr⟩
  · have hz2 : (tuErr l wd m != 0) = true := by simpa using hz
    have hz3 : ¬ tuErr l wd m = 0 := hz
    have XZ := hid (Blk.at_new w1 (b := w1.heap.size) (t := 47) (cs := #[.int .i64 0, .int .i64 0, .bool false, .slice none 0 0]) rfl)
    have BZ := hid (B1.out.alloc B1.out.size (.cells #[.int .i64 0, .int .i64 0, .bool false, .slice none 0 0] 47))
    have cz := XZ.out.cell
    clear hz
    go_wp2_with fail
    refine (awake_any _).mono ?_
    rintro e wz ⟨rfl, hb⟩
    go_wp2
    go_ret
    exact ⟨rfl, BZ.out.trans (hb.mono BZ.out.size)⟩
  have HZ := hid hz
  have RA := hid hr
  obtain ⟨⟨k1, k2, k3, k4⟩, _⟩ := tu_ok2 hz
  simp only [Bool.not_true, Bool.not_false]
  clear hz hr
  have XA := hid (Blk.at_new w1 (b := w1.heap.size) (t := 47) (cs := #[.int .i64 l, .int .i64 wd, .bool true, .slice A1 n c1]) rfl)
  have B2 := hid (B1.out.alloc B1.out.size (.cells #[.int .i64 l, .int .i64 wd, .bool true, .slice A1 n c1] 47))
  have D2 := hid (Blk.alloc D1.out (.cells #[.int .i64 l, .int .i64 wd, .bool true, .slice A1 n c1] 47))
  have RA2 := hid (RA.out.allocK' (.cells #[.int .i64 l, .int .i64 wd, .bool true, .slice A1 n c1] 47))
  clear D1 B1
  go_wp2_with (refine wpList_load_blk2 (t := 47) rfl rfl rfl Try.underlying47 rfl (by kernel_rfl) XA.out ?_)
  refine (turned_any l wd true A1 c1 n m _ RA2.out HN.out hl).mono ?_
  rintro e w3 ⟨hcase, hb⟩
  have B3 := hid (B2.out.trans (hb.mono B2.out.size))
  have D3 := hid (D2.out.below hb D2.out.lt)
  have XA3 := hid (XA.out.below hb XA.out.lt)
  have RA3 := hid (RA2.out.below hb)
  clear hb
  rcases hcase with ⟨hz, rfl⟩ | ⟨hz, A2, c2, rfl, hr⟩
  · exact absurd HZ.out hz
  have RB := hid hr
  simp only [Bool.not_true, Bool.not_false]
  clear hz hr D2 XA RA2 RA
  have XB := hid (Blk.at_new w3 (b := w3.heap.size) (t := 47) (cs := #[.int .i64 l, .int .i64 wd, .bool false, .slice A2 n c2]) rfl)
  have B4 := hid (B3.out.alloc B3.out.size (.cells #[.int .i64 l, .int .i64 wd, .bool false, .slice A2 n c2] 47))
  have D4 := hid (Blk.alloc D3.out (.cells #[.int .i64 l, .int .i64 wd, .bool false, .slice A2 n c2] 47))
  have XA4 := hid (Blk.alloc XA3.out (.cells #[.int .i64 l, .int .i64 wd, .bool false, .slice A2 n c2] 47))
  have RA4 := hid (RA3.out.allocK' (.cells #[.int .i64 l, .int .i64 wd, .bool false, .slice A2 n c2] 47))
  have RB4 := hid (RB.out.allocK' (.cells #[.int .i64 l, .int .i64 wd, .bool false, .slice A2 n c2] 47))
  clear B3 D3 XA3 RA3 RB
  have c4 := D4.out.cell
  go_wp2_with fail
  refine (child_any l wd l wd false false A2 a c2 c n n m m _ RB4.out (R1.out.below B4.out) HN.out HN.out (by omega)).mono ?_
  rintro e w5 ⟨rfl, hb⟩
  have B5 := hid (B4.out.trans (hb.mono B4.out.size))
  have D5 := hid (D4.out.below hb D4.out.lt)
  have XA5 := hid (XA4.out.below hb XA4.out.lt)
  have RA5 := hid (RA4.out.below hb)
  clear hb c4
  rw [show decide (((l, wd, false, m) : Ch) = (l, wd, false, m)) = true from decide_eq_true rfl]
  have c5 := D5.out.cell
  have cx5 := XA5.out.cell
  go_wp2_with fail
  refine (same3_any A1 a c1 c n n m m _ RA5.out (R1.out.below B5.out) HN.out HN.out (by omega)).mono ?_
  rintro e w6 ⟨rfl, hb⟩
  have B6 := hid (B5.out.trans (hb.mono B5.out.size))
  have D6 := hid (D5.out.below hb D5.out.lt)
  have XA6 := hid (XA5.out.below hb XA5.out.lt)
  have RA6 := hid (RA5.out.below hb)
  clear hb c5 cx5 D5 XA5 RA5
  rw [show decide (m = m) = true from decide_eq_true rfl]
  have c6 := D6.out.cell
  have hmx : max (1 : Int) wd = wd := by omega
  go_wp2_with fail
  try rw [hmx]
  refine (pick_any x wd _ (by omega)).mono ?_
  rintro e w7 ⟨q, rfl, hq, rfl⟩
  have HQ := hid hq
  obtain ⟨q1, q2⟩ := hq
  have v1 : IntKind.i64.wrap (wd - 1) = wd - 1 := IntWalk.i64_in _ (by omega)
  have v2 : IntKind.i64.wrap (wd - 1 - q) = wd - 1 - q := IntWalk.i64_in _ (by omega)
  go_wp2_with (refine wpList_load_blk2 (t := 47) rfl rfl rfl Try.underlying47 rfl (by kernel_rfl) D6.out ?_)
  refine (place_any l wd false a c n m _ (R1.out.below B6.out) HN.out hl q y).mono ?_
  rintro e w8 ⟨rfl, hb⟩
  have B8 := hid (B6.out.trans (hb.mono B6.out.size))
  have D8 := hid (D6.out.below hb D6.out.lt)
  have XA8 := hid (XA6.out.below hb XA6.out.lt)
  have RA8 := hid (RA6.out.below hb)
  clear hb c6
  have c8 := D8.out.cell
  go_wp2_with (refine wpList_load_blk2 (t := 47) rfl rfl rfl Try.underlying47 rfl (by kernel_rfl) XA8.out ?_)
  refine (place_any l wd true A1 c1 n m _ RA8.out HN.out hl (wd - 1 - q) y).mono ?_
  rintro e w9 ⟨rfl, hb⟩
  have B9 := hid (B8.out.trans (hb.mono B8.out.size))
  clear hb c8
  obtain ⟨t1, t2, t3⟩ := tw_pl (y := y) HZ.out HQ.out false
  simp only [Bool.not_true, Bool.not_false] at t2
  rw [t1, t2, t3]
  clear t1 t2 t3
  go_wp2_with fail
  refine (awake_any _).mono ?_
  rintro e wz ⟨rfl, hb⟩
  go_wp2
  go_ret
  exact ⟨rfl, B9.out.trans (hb.mono B9.out.size)⟩
theorem slitTurned_walk (x0 : Int) (x1 : Int) (x2 : Bool) (a3 : Option Addr) (c3 : Nat) (x3 : List Ru) (x4 : Int) (x5 : Int) (w : World) (_h0 : (Lit.int .i64 x0).wf = true) (_h1 : (Lit.int .i64 x1).wf = true) (h3 : Rds Nn w 3 a3 x3.length (cellsR x3)) (g3 : x3.length ≤ c3 ∧ c3 ≤ maxLen ∧ (a3 = none → x3.length = 0 ∧ c3 = 0)) (_i3 : ∀ r ∈ x3, (Lit.int .i64 r.1).wf = true ∧ (Lit.int .i64 r.2.1).wf = true) (_h4 : (Lit.int .i64 x4).wf = true) (_h5 : (Lit.int .i64 x5).wf = true) :
    Calls Try.prog 9 #[.agg #[.int .i64 x0, .int .i64 x1, .bool x2, .slice a3 x3.length c3], .int .i64 x4, .int .i64 x5] w fun e w' => e = .returned (.bool true) ∧ Below w.heap.size w w' := by
  cases x2 with
  | true => exact slitTurned_true x0 x1 a3 c3 _ x3 x4 x5 w h3 rfl (Nat.le_trans g3.1 g3.2.1)
  | false => exact slitTurned_false x0 x1 a3 c3 _ x3 x4 x5 w h3 rfl (Nat.le_trans g3.1 g3.2.1)
end Go.Proofs.Ytccgbojcghbdcaa
