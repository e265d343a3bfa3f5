/- SlitPlaces: for every input the law returns true. No condition. -/
import Derived.Test.YtccgbojcghbdcaaLaw39
namespace Go.Proofs.Ytccgbojcghbdcaa
open Go.RowKit

def turnV (l wd : Int) (t : Bool) (m : List Ru) : Ch := if tuErr l wd m = 0 then (l, wd, !t, m) else (0, 0, false, [])
theorem turn_case {l wd : Int} {t : Bool} {n : Nat} {m : List Ru} {w' : World} {e : Ending} (h : (tuErr l wd m ≠ 0 ∧ e = .returned (.tuple #[.agg #[.int .i64 0, .int .i64 0, .bool false, .slice none 0 0], .int .i64 (tuErr l wd m)])) ∨ (tuErr l wd m = 0 ∧ ∃ A c, e = .returned (.tuple #[.agg #[.int .i64 l, .int .i64 wd, .bool (!t), .slice A n c], .int .i64 0]) ∧ Rds Nn w' 3 A n (cellsR m))) (hn : n = m.length) (hg : n ≤ 1000000) : ∃ (l1 d1 : Int) (t1 : Bool) (A1 : Option Addr) (n1 c1 : Nat) (m1 : List Ru), e = .returned (.tuple #[.agg #[.int .i64 l1, .int .i64 d1, .bool t1, .slice A1 n1 c1], .int .i64 (tuErr l wd m)]) ∧ Rds Nn w' 3 A1 n1 (cellsR m1) ∧ n1 = m1.length ∧ n1 ≤ 1000000 ∧ ((l1, d1, t1, m1) : Ch) = turnV l wd t m := by
  unfold turnV
  rcases h with ⟨hz, rfl⟩ | ⟨hz, A, c, rfl, r⟩
  · rw [if_neg hz]
    exact ⟨0, 0, false, none, 0, 0, [], rfl, Rds.nil _ _ _ _, rfl, by omega, rfl⟩
  · rw [if_pos hz, hz]
    exact ⟨l, wd, !t, A, n, c, m, rfl, r, hn, hg, rfl⟩
set_option linter.unusedSimpArgs false in
set_option maxRecDepth 100000 in
set_option maxHeartbeats 16000000 in
theorem slitPlaces_in (l wd : Int) (t : Bool) (a : Option Addr) (c n : Nat) (m : List Ru) (x y : Int) (w : World) (r : Rds Nn w 3 a n (cellsR m)) (hn : n = m.length) (hl : n ≤ maxLen) (hy9 : y < 9223372036854775808) : Calls Try.prog 6 #[.agg #[.int .i64 l, .int .i64 wd, .bool t, .slice a n c], .int .i64 x, .int .i64 y] w fun e w' => e = .returned (.bool true) ∧ Below w.heap.size w w' := by
  have R1 := hid r
  have HN := hid hn
  clear r hn
  have D0 := hid (Blk.at_new w (b := w.heap.size) (t := 47) (cs := #[.int .i64 l, .int .i64 wd, .bool t, .slice a n c]) rfl)
  have B0 := hid ((Below.refl w.heap.size w).alloc (Nat.le_refl _) (.cells #[.int .i64 l, .int .i64 wd, .bool t, .slice a n c] 47))
  have c0 := D0.out.cell
  go_enter Try.func6, Try.ntmps6
  by_cases h20 : n ≤ 300
  rotate_left
  · have h21 : ((300 : Int) < n) := by omega
    go_wp2_with fail
    refine (awake_any _).mono ?_
    rintro e wz ⟨rfl, hb⟩
    go_wp2
    go_ret
    exact ⟨rfl, B0.out.trans (hb.mono B0.out.size)⟩
  have h21 : ¬ ((300 : Int) < n) := by omega
  go_wp2_with (refine wpList_load_blk2 (t := 47) rfl rfl rfl Try.underlying47 rfl (by kernel_rfl) D0.out ?_)
  refine (turned_any l wd t a c n m _ (R1.out.below B0.out) HN.out hl).mono ?_
  rintro e w1 ⟨hcase, hb⟩
  have B1 := hid (B0.out.trans (hb.mono B0.out.size))
  have D1 := hid (D0.out.below hb D0.out.lt)
  clear hb c0
  have HC1 : Hid (∃ (l1 d1 : Int) (t1 : Bool) (A1 : Option Addr) (n1 c1 : Nat) (m1 : List Ru), e = .returned (.tuple #[.agg #[.int .i64 l1, .int .i64 d1, .bool t1, .slice A1 n1 c1], .int .i64 (tuErr l wd m)]) ∧ Rds Nn w1 3 A1 n1 (cellsR m1) ∧ n1 = m1.length ∧ n1 ≤ 1000000 ∧ ((l1, d1, t1, m1) : Ch) = turnV l wd t m) := hid (turn_case hcase HN.out (by omega))
  clear hcase
  obtain ⟨l1, d1, t1, A1, n1, c1, m1, rfl, r1, hn1, hg1, hv1⟩ := HC1.out
  clear HC1
  have RA := hid r1
  have HN1 := hid hn1
  have HV1 := hid hv1
  clear r1 hn1 hv1
  have XA := hid (Blk.at_new w1 (b := w1.heap.size) (t := 47) (cs := #[.int .i64 l1, .int .i64 d1, .bool t1, .slice A1 n1 c1]) rfl)
  have B1' := hid (B1.out.alloc B1.out.size (.cells #[.int .i64 l1, .int .i64 d1, .bool t1, .slice A1 n1 c1] 47))
  have D1' := hid (Blk.alloc D1.out (.cells #[.int .i64 l1, .int .i64 d1, .bool t1, .slice A1 n1 c1] 47))
  have RA' := hid (RA.out.allocK' (.cells #[.int .i64 l1, .int .i64 d1, .bool t1, .slice A1 n1 c1] 47))
  go_wp2_with (refine wpList_load_blk2 (t := 47) rfl rfl rfl Try.underlying47 rfl (by kernel_rfl) D1'.out ?_)
  refine (rturned_any l wd t a c n m _ (R1.out.below B1'.out) HN.out hl).mono ?_
  rintro e w2 ⟨hcase, hb⟩
  have B2 := hid (B1'.out.trans (hb.mono B1'.out.size))
  have D2 := hid (D1'.out.below hb D1'.out.lt)
  have XA2 := hid (XA.out.below hb XA.out.lt)
  have RA2 := hid (RA'.out.below hb)
  clear hb
  have HC1 : Hid (∃ (l1 d1 : Int) (t1 : Bool) (A1 : Option Addr) (n1 c1 : Nat) (m1 : List Ru), e = .returned (.tuple #[.agg #[.int .i64 l1, .int .i64 d1, .bool t1, .slice A1 n1 c1], .int .i64 (tuErr l wd m)]) ∧ Rds Nn w2 3 A1 n1 (cellsR m1) ∧ n1 = m1.length ∧ n1 ≤ 1000000 ∧ ((l1, d1, t1, m1) : Ch) = turnV l wd t m) := hid (turn_case hcase HN.out (by omega))
  clear hcase
  obtain ⟨l2, d2, t2, A2, n2, c2, m2, rfl, r2, hn2, hg2, hv2⟩ := HC1.out
  clear HC1
  have RB := hid r2
  have HN2 := hid hn2
  have HV2 := hid hv2
  clear r2 hn2 hv2
  have XB := hid (Blk.at_new w2 (b := w2.heap.size) (t := 47) (cs := #[.int .i64 l2, .int .i64 d2, .bool t2, .slice A2 n2 c2]) rfl)
  have B2' := hid (B2.out.alloc B2.out.size (.cells #[.int .i64 l2, .int .i64 d2, .bool t2, .slice A2 n2 c2] 47))
  have D2' := hid (Blk.alloc D2.out (.cells #[.int .i64 l2, .int .i64 d2, .bool t2, .slice A2 n2 c2] 47))
  have XA2' := hid (Blk.alloc XA2.out (.cells #[.int .i64 l2, .int .i64 d2, .bool t2, .slice A2 n2 c2] 47))
  have RA2' := hid (RA2.out.allocK' (.cells #[.int .i64 l2, .int .i64 d2, .bool t2, .slice A2 n2 c2] 47))
  have RB' := hid (RB.out.allocK' (.cells #[.int .i64 l2, .int .i64 d2, .bool t2, .slice A2 n2 c2] 47))
  clear XA XA2 RA RA' RA2 RB D1 D2 D1'
  go_wp2_with (refine wpList_load_blk2 (t := 47) rfl rfl rfl Try.underlying47 rfl (by kernel_rfl) D2'.out ?_)
  refine (place_any l wd t a c n m _ (R1.out.below B2'.out) HN.out hl x y).mono ?_
  rintro e w3 ⟨rfl, hb⟩
  have B3 := hid (B2'.out.trans (hb.mono B2'.out.size))
  have D3 := hid (D2'.out.below hb D2'.out.lt)
  have XA3 := hid (XA2'.out.below hb XA2'.out.lt)
  have XB3 := hid (XB.out.below hb XB.out.lt)
  have RA3 := hid (RA2'.out.below hb)
  have RB3 := hid (RB'.out.below hb)
  clear hb
  go_wp2_with (refine wpList_load_blk2 (t := 47) rfl rfl rfl Try.underlying47 rfl (by kernel_rfl) D3.out ?_)
  refine (rplace_any l wd t a c n m _ (R1.out.below B3.out) HN.out hl x y hy9).mono ?_
  rintro e w4 ⟨rfl, hb⟩
  have B4 := hid (B3.out.trans (hb.mono B3.out.size))
  have XA4 := hid (XA3.out.below hb XA3.out.lt)
  have XB4 := hid (XB3.out.below hb XB3.out.lt)
  have RA4 := hid (RA3.out.below hb)
  have RB4 := hid (RB3.out.below hb)
  clear hb
  go_wp2_with (first | (refine wpList_load_blk2 (t := 47) rfl rfl rfl Try.underlying47 rfl (by kernel_rfl) XA4.out ?_) | (refine wpList_load_blk2 (t := 47) rfl rfl rfl Try.underlying47 rfl (by kernel_rfl) XB4.out ?_))
  refine (child_any l1 d1 l2 d2 t1 t2 A1 A2 c1 c2 n1 n2 m1 m2 _ RA4.out RB4.out HN1.out HN2.out hg1).mono ?_
  rintro e w5 ⟨rfl, hb⟩
  have B5 := hid (B4.out.trans (hb.mono B4.out.size))
  clear hb
  have hv : ((l1, d1, t1, m1) : Ch) = (l2, d2, t2, m2) := HV1.out.trans HV2.out.symm
  rw [show decide (((l1, d1, t1, m1) : Ch) = (l2, d2, t2, m2)) = true from decide_eq_true hv]
  clear hv
  go_wp2_with fail
  refine (awake_any _).mono ?_
  rintro e wz ⟨rfl, hb⟩
  go_wp2
  go_ret
  exact ⟨rfl, B5.out.trans (hb.mono B5.out.size)⟩
theorem slitPlaces_walk (x0 : Int) (x1 : Int) (x2 : Bool) (a3 : Option Addr) (c3 : Nat) (x3 : List Ru) (x4 : Int) (x5 : Int) (w : World) (_h0 : (Lit.int .i64 x0).wf = true) (_h1 : (Lit.int .i64 x1).wf = true) (h3 : Rds Nn w 3 a3 x3.length (cellsR x3)) (g3 : x3.length ≤ c3 ∧ c3 ≤ maxLen ∧ (a3 = none → x3.length = 0 ∧ c3 = 0)) (_i3 : ∀ r ∈ x3, (Lit.int .i64 r.1).wf = true ∧ (Lit.int .i64 r.2.1).wf = true) (_h4 : (Lit.int .i64 x4).wf = true) (h5 : (Lit.int .i64 x5).wf = true) :
    Calls Try.prog 6 #[.agg #[.int .i64 x0, .int .i64 x1, .bool x2, .slice a3 x3.length c3], .int .i64 x4, .int .i64 x5] w fun e w' => e = .returned (.bool true) ∧ Below w.heap.size w w' := by
  exact slitPlaces_in x0 x1 x2 a3 c3 _ x3 x4 x5 w h3 rfl (Nat.le_trans g3.1 g3.2.1) (by simp [Lit.wf, IntKind.min, IntKind.max, IntKind.bits, IntKind.signed] at h5; omega)
end Go.Proofs.Ytccgbojcghbdcaa
