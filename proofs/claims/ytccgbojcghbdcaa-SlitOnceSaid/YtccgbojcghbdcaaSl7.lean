/- Chapter 39: children: the reference's Turned, Place, equal ones. -/
import Derived.Test.YtccgbojcghbdcaaSl6
namespace Go.Proofs.Ytccgbojcghbdcaa
open Go.RowKit

set_option linter.unusedSimpArgs false in
set_option maxRecDepth 100000 in
set_option maxHeartbeats 4000000 in
theorem rturned_any (l wd : Int) (t : Bool) (a : Option Addr) (c n : Nat) (m : List Ru) (w : World) (r : Rds Nn w 3 a n (cellsR m)) (hn : n = m.length) (hl : n ≤ maxLen) : Calls Try.prog 23 #[.agg #[.int .i64 l, .int .i64 wd, .bool t, .slice a n c]] w (TuPost l wd t n m w) := by
  have R1 := hid r
  have HN := hid hn
  clear r hn
  have D0 := hid (Blk.alloc (Blk.at_new w (b := w.heap.size) (t := 47) (cs := #[.int .i64 l, .int .i64 wd, .bool t, .slice a n c]) rfl) (.cells #[.int .i64 0, .int .i64 0, .bool false, .slice none 0 0] 47))
  have Z0 := hid (Blk.at_new (w.alloc (.cells #[.int .i64 l, .int .i64 wd, .bool t, .slice a n c] 47)) (b := w.heap.size + 1) (t := 47) (cs := #[.int .i64 0, .int .i64 0, .bool false, .slice none 0 0]) (by simp))
  have B0 := hid (((Below.refl w.heap.size w).alloc (Nat.le_refl _) (.cells #[.int .i64 l, .int .i64 wd, .bool t, .slice a n c] 47)).alloc (by simp) (.cells #[.int .i64 0, .int .i64 0, .bool false, .slice none 0 0] 47))
  go_enter Try.func23, Try.ntmps23
  go_upto_region 1 with fail
  generalize ((w.alloc (.cells #[.int .i64 l, .int .i64 wd, .bool t, .slice a n c] 47)).alloc (.cells #[.int .i64 0, .int .i64 0, .bool false, .slice none 0 0] 47)) = wq at D0 Z0 B0 ⊢
  have c0 := D0.out.cell
  obtain ⟨R, hR⟩ : ∃ R, liesB 12000 l wd = R := ⟨_, rfl⟩
  cases R with
  | false =>
    have TE := hid (tu_1 (m := m) hR)
    rcases four_false hR with h | ⟨h, h1⟩ | ⟨h, h1, h2⟩ | ⟨h, h1, h2, h3⟩
    all_goals clear hR
    rotate_left 3
    · have ww : IntKind.i64.wrap (12000 - l) = 12000 - l := IntWalk.i64_in _ (by omega)
      go_wp2_with (refine wpList_store_blk2 (t := 47) (e := 47) (cs0 := #[.int .i64 0, .int .i64 0, .bool false, .slice none 0 0]) (cs := #[.int .i64 0, .int .i64 0, .bool false, .slice none 0 0]) rfl rfl rfl rfl (by kernel_rfl) rfl (by simp [Value.oneCell']) Z0.out ?_)
      refine bodyPost_ret (v := .tuple #[.agg #[.int .i64 0, .int .i64 0, .bool false, .slice none 0 0], .int .i64 1]) (results_cell_tmp rfl rfl rfl (Blk.row Z0.out _) Try.underlying47 rfl (by kernel_rfl)) rfl ?_
      exact tu_no TE.out (by decide) (Below.row B0.out (by omega) _)
    all_goals
      go_wp2_with (refine wpList_store_blk2 (t := 47) (e := 47) (cs0 := #[.int .i64 0, .int .i64 0, .bool false, .slice none 0 0]) (cs := #[.int .i64 0, .int .i64 0, .bool false, .slice none 0 0]) rfl rfl rfl rfl (by kernel_rfl) rfl (by simp [Value.oneCell']) Z0.out ?_)
      refine bodyPost_ret (v := .tuple #[.agg #[.int .i64 0, .int .i64 0, .bool false, .slice none 0 0], .int .i64 1]) (results_cell_tmp rfl rfl rfl (Blk.row Z0.out _) Try.underlying47 rfl (by kernel_rfl)) rfl ?_
      exact tu_no TE.out (by decide) (Below.row B0.out (by omega) _)
  | true =>
  have TE := hid (tu_r (m := m) hR)
  obtain ⟨h, h1, h2, h3⟩ := four_true hR
  have ww : IntKind.i64.wrap (12000 - l) = 12000 - l := IntWalk.i64_in _ (by omega)
  clear hR
  go_wp2_with fail
  refine (rcheckR_any a c n m _ (R1.out.below B0.out) HN.out hl).mono ?_
  rintro e w2 ⟨rfl, hb⟩
  have D2 := hid (D0.out.below hb D0.out.lt)
  have Z2 := hid (Z0.out.below hb Z0.out.lt)
  have B2 := hid (B0.out.trans (hb.mono B0.out.size))
  clear hb c0
  by_cases hz : runErr m = 0
  rotate_left
  · have hz2 : (runErr m != 0) = true := by simpa using hz
    have HZ := hid hz
    clear hz
    go_wp2_with (refine wpList_store_blk2 (t := 47) (e := 47) (cs0 := #[.int .i64 0, .int .i64 0, .bool false, .slice none 0 0]) (cs := #[.int .i64 0, .int .i64 0, .bool false, .slice none 0 0]) rfl rfl rfl rfl (by kernel_rfl) rfl (by simp [Value.oneCell']) Z2.out ?_)
    refine bodyPost_ret (v := .tuple #[.agg #[.int .i64 0, .int .i64 0, .bool false, .slice none 0 0], .int .i64 _]) (results_cell_tmp rfl rfl rfl (Blk.row Z2.out _) Try.underlying47 rfl (by kernel_rfl)) rfl ?_
    exact tu_no TE.out HZ.out (Below.row B2.out (by have := D2.out.lt; omega) _)
  have RO := hid (re_ok hz)
  have T0 : Hid (tuErr l wd m = 0) := hid (by rw [← TE.out, hz])
  rw [hz]
  clear hz
  have n256 : n ≤ 256 := by rw [HN.out]; exact RO.out.1
  have c2 := D2.out.cell
  go_upto_region 7 with fail
  go_wp2_with (first
    | (at_builtin; refine wpList_app (n := 0) (m := n) (news := cellsR m) infoR Try.underlying45 (by kernel_rfl) (by omega) (by omega) (own_nil _ _ _ _) (R1.out.below B2.out) (cellsR_one _) (by omega) rfl rfl rfl rfl ?_; intro v6 w6 hown hchg hnew; rw [Nat.zero_add, List.nil_append] at hown; obtain ⟨A6, c6, rfl, _, _⟩ := own_form hown; have H6 := hid (hchg.below (Nat.le_refl w2.heap.size) (fun b hb hf => by cases hf)); have NR := hid (newer_nil hnew); have D6 := hid (D2.out.below H6.out D2.out.lt); have Z6 := hid (Z2.out.below H6.out Z2.out.lt); have B6 := hid (B2.out.trans (H6.out.mono B2.out.size)); have R6 := hid (Rds.own hown (S := fun g => g = w.heap.size + 1) (fun g hg e => by have h1 := NR.out g hg; have h2 := Z2.out.lt; omega)); have c6' := D6.out.cell; clear hown hchg hnew)
    | (refine wpList_store_blk2 (t := 47) (e := 47) (cs0 := #[.int .i64 0, .int .i64 0, .bool false, .slice none 0 0]) (cs := #[.int .i64 l, .int .i64 wd, .bool (!t), .slice A6 n c6]) rfl rfl rfl rfl (by kernel_rfl) rfl (by simp [Value.oneCell']) Z6.out ?_))
  refine bodyPost_ret (v := .tuple #[.agg #[.int .i64 l, .int .i64 wd, .bool (!t), .slice A6 n c6], .int .i64 0]) (results_cell_tmp rfl rfl rfl (Blk.row Z6.out _) Try.underlying47 rfl (by kernel_rfl)) rfl ?_
  exact tu_ok T0.out ((R6.out.keep (Chg.row (S := fun g => g = w.heap.size + 1) (Chg.refl _ _) rfl _)).mono_set (fun _ _ h => h.elim)) (Below.row B6.out (by omega) _)
def plErr (l wd : Int) (m : List Ru) (x y : Int) : Int := if tuErr l wd m ≠ 0 then tuErr l wd m else if 0 ≤ x ∧ x < wd then atErr m y else 20
def plU (l wd : Int) (t : Bool) (m : List Ru) (x y : Int) : Int := if plErr l wd m x y = 0 then (if t = true then l + (wd - 1 - x) else l + x) else 0
def plV (l wd : Int) (m : List Ru) (x y : Int) : Int := if plErr l wd m x y = 0 then atV m y else 0
def PlPost (l wd : Int) (t : Bool) (m : List Ru) (x y : Int) (w : World) : Ending → World → Prop := fun e w' => e = .returned (.tuple #[.int .i64 (plU l wd t m x y), .int .i64 (plV l wd m x y), .int .i64 (plErr l wd m x y)]) ∧ Below w.heap.size w w'
section
variable {l wd x y z : Int} {t : Bool} {m : List Ru} {w w' : World}
theorem pl_no (h : z = plErr l wd m x y) (h0 : z ≠ 0) (hb : Below w.heap.size w w') : PlPost l wd t m x y w (.returned (.tuple #[.int .i64 0, .int .i64 0, .int .i64 z])) w' := by
  subst h
  unfold PlPost plU plV
  rw [if_neg h0, if_neg h0]
  exact ⟨rfl, hb⟩
theorem pl_ok {u v : Int} (h : plErr l wd m x y = 0) (h1 : u = if t = true then l + (wd - 1 - x) else l + x) (h2 : v = atV m y) (hb : Below w.heap.size w w') : PlPost l wd t m x y w (.returned (.tuple #[.int .i64 u, .int .i64 v, .int .i64 0])) w' := by
  subst h1 h2
  unfold PlPost plU plV
  rw [if_pos h, if_pos h, h]
  exact ⟨rfl, hb⟩
theorem ple_t (h : tuErr l wd m ≠ 0) : tuErr l wd m = plErr l wd m x y := by unfold plErr; rw [if_pos h]
theorem ple_20 (h : tuErr l wd m = 0) (hx : ¬ (0 ≤ x ∧ x < wd)) : 20 = plErr l wd m x y := by unfold plErr; rw [if_neg (fun e => e h), if_neg hx]
theorem ple_a (h : tuErr l wd m = 0) (hx : 0 ≤ x ∧ x < wd) : atErr m y = plErr l wd m x y := by unfold plErr; rw [if_neg (fun e => e h), if_pos hx]
theorem tu_ok2 (h : tuErr l wd m = 0) : (0 ≤ l ∧ 1 ≤ wd ∧ l ≤ 12000 ∧ wd ≤ 12000 - l) ∧ runErr m = 0 := by
  unfold tuErr at h
  split at h
  · rename_i h1; exact ⟨four_true h1, h⟩
  · cases h
end
set_option linter.unusedSimpArgs false in
set_option maxRecDepth 100000 in
set_option maxHeartbeats 4000000 in
theorem place_any (l wd : Int) (t : Bool) (a : Option Addr) (c n : Nat) (m : List Ru) (w : World) (r : Rds Nn w 3 a n (cellsR m)) (hn : n = m.length) (hl : n ≤ maxLen) (x y : Int) : Calls Try.prog 24 #[.agg #[.int .i64 l, .int .i64 wd, .bool t, .slice a n c], .int .i64 x, .int .i64 y] w (PlPost l wd t m x y w) := by
  have R1 := hid r
  have HN := hid hn
  clear r hn
  have D0 := hid (Blk.at_new w (b := w.heap.size) (t := 47) (cs := #[.int .i64 l, .int .i64 wd, .bool t, .slice a n c]) rfl)
  have B0 := hid ((Below.refl w.heap.size w).alloc (Nat.le_refl _) (.cells #[.int .i64 l, .int .i64 wd, .bool t, .slice a n c] 47))
  go_enter Try.func24, Try.ntmps24
  go_wp2_with (refine wpList_load_blk2 (t := 47) rfl rfl rfl Try.underlying47 rfl (by kernel_rfl) D0.out ?_)
  refine (turned_any l wd t a c n m _ (R1.out.below B0.out) HN.out hl).mono ?_
  rintro e w1 ⟨hcase, hb⟩
  have D1 := hid (D0.out.below hb D0.out.lt)
  have B1 := hid (B0.out.trans (hb.mono B0.out.size))
  clear hb
  rcases hcase with ⟨hz, rfl⟩ | ⟨hz, A, c1, rfl, _⟩
  · have PE := hid (ple_t (x := x) (y := y) hz)
    have HZ := hid hz
    have hz2 : (tuErr l wd m != 0) = true := by simpa using hz
    clear hz
    go_wp2
    go_ret3
    exact pl_no PE.out HZ.out (B1.out.alloc B1.out.size _)
  have HZ := hid hz
  obtain ⟨⟨g1, g2, g3, g4⟩, hre⟩ := tu_ok2 hz
  have D2 := hid (Blk.alloc D1.out (.cells #[.int .i64 l, .int .i64 wd, .bool (!t), .slice A n c1] 47))
  have B2 := hid (B1.out.alloc B1.out.size (.cells #[.int .i64 l, .int .i64 wd, .bool (!t), .slice A n c1] 47))
  have c2 := D2.out.cell
  clear hz hre
  by_cases hx : 0 ≤ x ∧ x < wd
  rotate_left
  · have PE := hid (ple_20 (y := y) HZ.out hx)
    have hq : x < 0 ∨ (0 ≤ x ∧ wd ≤ x) := by omega
    clear hx
    rcases hq with h | ⟨h, h1⟩
    all_goals
      go_wp2
      go_ret3
      exact pl_no PE.out (by decide) B2.out
  have PE := hid (ple_a (y := y) HZ.out hx)
  obtain ⟨hx0, hx1⟩ := hx
  go_wp2_with fail
  refine (pat_any a c n m _ (R1.out.below B2.out) HN.out hl y).mono ?_
  rintro e w3 ⟨rfl, hb⟩
  have D3 := hid (D2.out.below hb D2.out.lt)
  have B3 := hid (B2.out.trans (hb.mono B2.out.size))
  clear hb c2
  have c3 := D3.out.cell
  by_cases ha : atErr m y = 0
  rotate_left
  · have ha2 : (atErr m y != 0) = true := by simpa using ha
    have HA := hid ha
    clear ha
    go_wp2
    go_ret3
    exact pl_no PE.out HA.out B3.out
  rw [ha] at PE ⊢
  have PF := hid PE.out.symm
  clear PE ha
  have v1 : IntKind.i64.wrap (wd - 1) = wd - 1 := IntWalk.i64_in _ (by omega)
  have v2 : IntKind.i64.wrap (wd - 1 - x) = wd - 1 - x := IntWalk.i64_in _ (by omega)
  have v3 : IntKind.i64.wrap (l + (wd - 1 - x)) = l + (wd - 1 - x) := IntWalk.i64_in _ (by omega)
  have v4 : IntKind.i64.wrap (l + x) = l + x := IntWalk.i64_in _ (by omega)
  have v5 : IntKind.i64.wrap (l + wd) = l + wd := IntWalk.i64_in _ (by omega)
  have v6 : IntKind.i64.wrap (l + wd - 1) = l + wd - 1 := IntWalk.i64_in _ (by omega)
  have v7 : IntKind.i64.wrap (l + wd - 1 - x) = l + wd - 1 - x := IntWalk.i64_in _ (by omega)
  cases t with
  | true =>
    go_wp2
    go_ret3
    exact pl_ok PF.out (by simp <;> omega) rfl B3.out
  | false =>
    go_wp2
    go_ret3
    exact pl_ok PF.out (by simp) rfl B3.out
set_option linter.unusedSimpArgs false in
set_option maxRecDepth 100000 in
set_option maxHeartbeats 4000000 in
theorem rplace_any (l wd : Int) (t : Bool) (a : Option Addr) (c n : Nat) (m : List Ru) (w : World) (r : Rds Nn w 3 a n (cellsR m)) (hn : n = m.length) (hl : n ≤ maxLen) (x y : Int) (hy9 : y < 9223372036854775808) : Calls Try.prog 25 #[.agg #[.int .i64 l, .int .i64 wd, .bool t, .slice a n c], .int .i64 x, .int .i64 y] w (PlPost l wd t m x y w) := by
  have R1 := hid r
  have HN := hid hn
  clear r hn
  have D0 := hid (Blk.at_new w (b := w.heap.size) (t := 47) (cs := #[.int .i64 l, .int .i64 wd, .bool t, .slice a n c]) rfl)
  have B0 := hid ((Below.refl w.heap.size w).alloc (Nat.le_refl _) (.cells #[.int .i64 l, .int .i64 wd, .bool t, .slice a n c] 47))
  go_enter Try.func25, Try.ntmps25
  go_wp2_with (refine wpList_load_blk2 (t := 47) rfl rfl rfl Try.underlying47 rfl (by kernel_rfl) D0.out ?_)
  refine (rturned_any l wd t a c n m _ (R1.out.below B0.out) HN.out hl).mono ?_
  rintro e w1 ⟨hcase, hb⟩
  have D1 := hid (D0.out.below hb D0.out.lt)
  have B1 := hid (B0.out.trans (hb.mono B0.out.size))
  clear hb
  rcases hcase with ⟨hz, rfl⟩ | ⟨hz, A, c1, rfl, _⟩
  · have PE := hid (ple_t (x := x) (y := y) hz)
    have HZ := hid hz
    have hz2 : (tuErr l wd m != 0) = true := by simpa using hz
    clear hz
    go_wp2
    go_ret3
    exact pl_no PE.out HZ.out (B1.out.alloc B1.out.size _)
  have HZ := hid hz
  obtain ⟨⟨g1, g2, g3, g4⟩, hre⟩ := tu_ok2 hz
  have D2 := hid (Blk.alloc D1.out (.cells #[.int .i64 l, .int .i64 wd, .bool (!t), .slice A n c1] 47))
  have B2 := hid (B1.out.alloc B1.out.size (.cells #[.int .i64 l, .int .i64 wd, .bool (!t), .slice A n c1] 47))
  have c2 := D2.out.cell
  clear hz hre
  by_cases hx : 0 ≤ x ∧ x < wd
  rotate_left
  · have PE := hid (ple_20 (y := y) HZ.out hx)
    have hq : x < 0 ∨ (0 ≤ x ∧ wd ≤ x) := by omega
    clear hx
    rcases hq with h | ⟨h, h1⟩
    all_goals
      go_wp2
      go_ret3
      exact pl_no PE.out (by decide) B2.out
  have PE := hid (ple_a (y := y) HZ.out hx)
  obtain ⟨hx0, hx1⟩ := hx
  go_wp2_with fail
  refine (rat_any a c n m _ (R1.out.below B2.out) HN.out hl y hy9).mono ?_
  rintro e w3 ⟨rfl, hb⟩
  have D3 := hid (D2.out.below hb D2.out.lt)
  have B3 := hid (B2.out.trans (hb.mono B2.out.size))
  clear hb c2
  have c3 := D3.out.cell
  by_cases ha : atErr m y = 0
  rotate_left
  · have ha2 : (atErr m y != 0) = true := by simpa using ha
    have HA := hid ha
    clear ha
    go_wp2
    go_ret3
    exact pl_no PE.out HA.out B3.out
  rw [ha] at PE ⊢
  have PF := hid PE.out.symm
  clear PE ha
  have v1 : IntKind.i64.wrap (wd - 1) = wd - 1 := IntWalk.i64_in _ (by omega)
  have v2 : IntKind.i64.wrap (wd - 1 - x) = wd - 1 - x := IntWalk.i64_in _ (by omega)
  have v3 : IntKind.i64.wrap (l + (wd - 1 - x)) = l + (wd - 1 - x) := IntWalk.i64_in _ (by omega)
  have v4 : IntKind.i64.wrap (l + x) = l + x := IntWalk.i64_in _ (by omega)
  have v5 : IntKind.i64.wrap (l + wd) = l + wd := IntWalk.i64_in _ (by omega)
  have v6 : IntKind.i64.wrap (l + wd - 1) = l + wd - 1 := IntWalk.i64_in _ (by omega)
  have v7 : IntKind.i64.wrap (l + wd - 1 - x) = l + wd - 1 - x := IntWalk.i64_in _ (by omega)
  cases t with
  | true =>
    go_wp2
    go_ret3
    exact pl_ok PF.out (by simp <;> omega) rfl B3.out
  | false =>
    go_wp2
    go_ret3
    exact pl_ok PF.out (by simp) rfl B3.out
abbrev Ch := Int × Int × Bool × List Ru
instance ruDec : DecidableEq Ru := @instDecidableEqProd _ _ _ (@instDecidableEqProd _ _ _ _)
instance chDec : DecidableEq Ch := @instDecidableEqProd _ _ _ (@instDecidableEqProd _ _ _ (@instDecidableEqProd _ _ _ (@instDecidableEqList _ ruDec)))
instance chsDec : DecidableEq (List Ch) := @instDecidableEqList _ chDec
set_option linter.unusedSimpArgs false in
set_option maxRecDepth 100000 in
set_option maxHeartbeats 4000000 in
theorem child_any (l1 d1 l2 d2 : Int) (t1 t2 : Bool) (a1 a2 : Option Addr) (c1 c2 n1 n2 : Nat) (m1 m2 : List Ru) (w : World) (r1 : Rds Nn w 3 a1 n1 (cellsR m1)) (r2 : Rds Nn w 3 a2 n2 (cellsR m2)) (e1 : n1 = m1.length) (e2 : n2 = m2.length) (hn : n1 ≤ 1000000) : Calls Try.prog 26 #[.agg #[.int .i64 l1, .int .i64 d1, .bool t1, .slice a1 n1 c1], .agg #[.int .i64 l2, .int .i64 d2, .bool t2, .slice a2 n2 c2]] w fun e w' => e = .returned (.bool (decide (((l1, d1, t1, m1) : Ch) = (l2, d2, t2, m2)))) ∧ Below w.heap.size w w' := by
  have R1 := hid r1
  have R2 := hid r2
  have E1 := hid e1
  have E2 := hid e2
  have C := (Blk.alloc (Blk.at_new w (b := w.heap.size) (t := 47) (cs := #[.int .i64 l1, .int .i64 d1, .bool t1, .slice a1 n1 c1]) rfl) (.cells #[.int .i64 l2, .int .i64 d2, .bool t2, .slice a2 n2 c2] 47)).cell
  have D := (Blk.at_new (w.alloc (.cells #[.int .i64 l1, .int .i64 d1, .bool t1, .slice a1 n1 c1] 47)) (b := w.heap.size + 1) (t := 47) (cs := #[.int .i64 l2, .int .i64 d2, .bool t2, .slice a2 n2 c2]) (by simp)).cell
  have B0 := hid (((Below.refl w.heap.size w).alloc (Nat.le_refl _) (.cells #[.int .i64 l1, .int .i64 d1, .bool t1, .slice a1 n1 c1] 47)).alloc (by simp) (.cells #[.int .i64 l2, .int .i64 d2, .bool t2, .slice a2 n2 c2] 47))
  clear r1 r2 e1 e2
  by_cases h1 : l1 = l2
  rotate_left
  · have R : Hid (false = decide (((l1, d1, t1, m1) : Ch) = (l2, d2, t2, m2))) := hid (by simp [h1])
    go_enter Try.func26, Try.ntmps26
    go_wp2
    go_ret
    exact ⟨ret_b R.out, B0.out⟩
  subst h1
  by_cases h2 : d1 = d2
  rotate_left
  · have R : Hid (false = decide (((l1, d1, t1, m1) : Ch) = (l1, d2, t2, m2))) := hid (by simp [h2])
    go_enter Try.func26, Try.ntmps26
    go_wp2
    go_ret
    exact ⟨ret_b R.out, B0.out⟩
  subst h2
  by_cases h3 : t1 = t2
  rotate_left
  · have R : Hid (false = decide (((l1, d1, t1, m1) : Ch) = (l1, d1, t2, m2))) := hid (by simp [h3])
    cases t1 <;> cases t2 <;> try (exact absurd rfl h3)
    all_goals
      go_enter Try.func26, Try.ntmps26
      go_wp2
      go_ret
      exact ⟨ret_b R.out, B0.out⟩
  subst h3
  have R : Hid (decide (m1 = m2) = decide (((l1, d1, t1, m1) : Ch) = (l1, d1, t1, m2))) := hid (by simp)
  obtain ⟨Q, hQ⟩ : ∃ Q, decide (m1 = m2) = Q := ⟨_, rfl⟩
  cases t1
  all_goals
    go_enter Try.func26, Try.ntmps26
    go_wp2_with fail
    refine (same3_any a1 a2 c1 c2 n1 n2 m1 m2 _ (R1.out.below B0.out) (R2.out.below B0.out) E1.out E2.out hn).mono ?_
    rintro e w3 ⟨rfl, hb⟩
    have B3 := hid (B0.out.trans (hb.mono B0.out.size))
    clear hb C D
    rw [hQ] at R ⊢
    cases Q
    all_goals
      go_wp2
      go_ret
      exact ⟨ret_b R.out, B3.out⟩
def ChRow (S : Nat → Prop) (w : World) (vs : List Value) (L : List Ch) : Prop := vs.length = L.length * 4 ∧ ∀ (i : Nat) (ch : Ch), L[i]? = some ch → ∃ A c, vs[4 * i]? = some (.int .i64 ch.1) ∧ vs[4 * i + 1]? = some (.int .i64 ch.2.1) ∧ vs[4 * i + 2]? = some (.bool ch.2.2.1) ∧ vs[4 * i + 3]? = some (.slice A ch.2.2.2.length c) ∧ Rds S w 3 A ch.2.2.2.length (cellsR ch.2.2.2)
theorem ChRow.nil (S : Nat → Prop) (w : World) : ChRow S w [] [] := ⟨rfl, fun i l h => by simp at h⟩
theorem ChRow.below {w w' : World} {vs : List Value} {L : List Ch} (h : ChRow Nn w vs L) (hb : Below w.heap.size w w') : ChRow Nn w' vs L :=
  ⟨h.1, fun i l hl => by obtain ⟨A, c, e1, e2, e3, e4, r⟩ := h.2 i l hl; exact ⟨A, c, e1, e2, e3, e4, r.below hb⟩⟩
theorem ChRow.keep {S : Nat → Prop} {w w' : World} {vs : List Value} {L : List Ch} (h : ChRow S w vs L) (hc : Chg S w w') : ChRow S w' vs L :=
  ⟨h.1, fun i l hl => by obtain ⟨A, c, e1, e2, e3, e4, r⟩ := h.2 i l hl; exact ⟨A, c, e1, e2, e3, e4, r.keep hc⟩⟩
theorem ChRow.mono {S S' : Nat → Prop} {w : World} {vs : List Value} {L : List Ch} (h : ChRow S w vs L) (hs : ∀ b, b < w.heap.size → S' b → S b) : ChRow S' w vs L :=
  ⟨h.1, fun i l hl => by obtain ⟨A, c, e1, e2, e3, e4, r⟩ := h.2 i l hl; exact ⟨A, c, e1, e2, e3, e4, r.mono_set hs⟩⟩
theorem ChRow.snoc {S : Nat → Prop} {w : World} {vs : List Value} {L : List Ch} {A : Option Addr} {c : Nat} {l d : Int} {t : Bool} {m : List Ru} (h : ChRow S w vs L) (r : Rds S w 3 A m.length (cellsR m)) : ChRow S w (vs ++ [.int .i64 l, .int .i64 d, .bool t, .slice A m.length c]) (L ++ [(l, d, t, m)]) := by
  refine ⟨by simp [h.1]; omega, fun i l' hl => ?_⟩
  have hlen := h.1
  rcases Nat.lt_or_ge i L.length with hi | hi
  · rw [List.getElem?_append_left hi] at hl
    obtain ⟨A', c', e1, e2, e3, e4, r'⟩ := h.2 i l' hl
    exact ⟨A', c', by rw [List.getElem?_append_left (by omega)]; exact e1, by rw [List.getElem?_append_left (by omega)]; exact e2, by rw [List.getElem?_append_left (by omega)]; exact e3, by rw [List.getElem?_append_left (by omega)]; exact e4, r'⟩
  · rw [List.getElem?_append_right hi] at hl
    have hz : i - L.length = 0 := by
      rcases hd : i - L.length with _ | k
      · rfl
      · rw [hd] at hl; simp at hl
    rw [hz] at hl
    simp at hl
    subst hl
    have q0 : 4 * i - vs.length = 0 := by omega
    have q1 : 4 * i + 1 - vs.length = 1 := by omega
    have q2 : 4 * i + 2 - vs.length = 2 := by omega
    have q3 : 4 * i + 3 - vs.length = 3 := by omega
    exact ⟨A, c, by rw [List.getElem?_append_right (by omega), q0]; rfl, by rw [List.getElem?_append_right (by omega), q1]; rfl, by rw [List.getElem?_append_right (by omega), q2]; rfl, by rw [List.getElem?_append_right (by omega), q3]; rfl, r⟩
theorem chrow_at {w : World} {A : Option Addr} {n : Nat} {vs : List Value} {L : List Ch} (h : Rds Nn w 4 A n vs) (hp : ChRow Nn w vs L) (hn : n = L.length) {k : Nat} (hk : k < n) : ∃ p o, ∃ (l d : Int) (t : Bool) (m : List Ru) (A' : Option Addr) (c' : Nat), A = some ⟨p, o, none⟩ ∧ L[k]? = some (l, d, t, m) ∧ Rds Nn w 3 A' m.length (cellsR m) ∧ ∀ W, Below w.heap.size w W → W.cell? ⟨p, o + k * 4, none⟩ = some (.int .i64 l) ∧ W.cell? ⟨p, o + k * 4 + 1, none⟩ = some (.int .i64 d) ∧ W.cell? ⟨p, o + k * 4 + 2, none⟩ = some (.bool t) ∧ W.cell? ⟨p, o + k * 4 + 3, none⟩ = some (.slice A' m.length c') := by
  obtain ⟨p, o, rfl, hp1, _, hr⟩ := Rds.plain h (by omega) (by decide)
  have hm : L[k]? = some (L[k]'(by omega)) := List.getElem?_eq_getElem (by omega)
  obtain ⟨A', c', e1, e2, e3, e4, r⟩ := hp.2 k _ hm
  refine ⟨p, o, (L[k]'(by omega)).1, (L[k]'(by omega)).2.1, (L[k]'(by omega)).2.2.1, (L[k]'(by omega)).2.2.2, A', c', rfl, hm, r, fun W hW => ⟨?_, ?_, ?_, ?_⟩⟩
  · rw [← hr _ _ e1, Nat.mul_comm]; exact World.cell?_of_block (hW.block _ hp1)
  · rw [← hr _ _ e2, Nat.mul_comm]; exact World.cell?_of_block (hW.block _ hp1)
  · rw [← hr _ _ e3, Nat.mul_comm]; exact World.cell?_of_block (hW.block _ hp1)
  · rw [← hr _ _ e4, Nat.mul_comm]; exact World.cell?_of_block (hW.block _ hp1)
theorem load_four {P : Program} {w : World} {p o : Nat} {t : TypeId} {v0 v1 v2 v3 : Value} {d : TypeDesc} (h0 : w.cell? ⟨p, o, none⟩ = some v0) (h1 : w.cell? ⟨p, o + 1, none⟩ = some v1) (h2 : w.cell? ⟨p, o + 2, none⟩ = some v2) (h3 : w.cell? ⟨p, o + 3, none⟩ = some v3) (hu : P.underlying t = some d) (hd : d.isRow = true) (hi : (P.info? t).map (·.size) = some 4) : (Instr.loadAt t (.pointer (some ⟨p, o, none⟩))).run P w = .ok (.agg #[v0, v1, v2, v3]) w := by
  have := run_loadAt_mid (P := P) w p o t [v0, v1, v2, v3] d (fun j v hv => by
    match j, hv with
    | 0, hv => simp at hv; subst hv; exact h0
    | 1, hv => simp at hv; subst hv; exact h1
    | 2, hv => simp at hv; subst hv; exact h2
    | 3, hv => simp at hv; subst hv; exact h3
    | j + 4, hv => simp at hv) hu hd (by simpa using hi)
  simpa using this
set_option linter.unusedSimpArgs false in
set_option maxRecDepth 100000 in
set_option maxHeartbeats 4000000 in
theorem children_any (a1 a2 : Option Addr) (c1 c2 n1 n2 : Nat) (v1 v2 : List Value) (L1 L2 : List Ch) (w : World) (r1 : Rds Nn w 4 a1 n1 v1) (p1 : ChRow Nn w v1 L1) (r2 : Rds Nn w 4 a2 n2 v2) (p2 : ChRow Nn w v2 L2) (e1 : n1 = L1.length) (e2 : n2 = L2.length) (hn : n1 ≤ 1000000) (hm : ∀ ch ∈ L1, ch.2.2.2.length ≤ 1000000) : Calls Try.prog 21 #[.slice a1 n1 c1, .slice a2 n2 c2] w fun e w' => e = .returned (.bool (decide (L1 = L2))) ∧ Below w.heap.size w w' := by
  subst e1 e2
  have R1 := hid r1
  have R2 := hid r2
  have P1 := hid p1
  have P2 := hid p2
  have LB := hid hm
  clear r1 r2 p1 p2 hm
  by_cases hl : L1.length = L2.length
  · have HL := hid hl
    go_enter Try.func21, Try.ntmps21
    go_wp2
    clear hl
    go_loopw [5] (fun i wr => ∃ k : Nat, k ≤ L1.length ∧ i = .int .i64 k ∧ L1.take k = L2.take k ∧ Below w.heap.size w wr) (fun i _ => L1.length - (intOf i).toNat)
    case atStart => exact ⟨0, Nat.zero_le _, rfl, rfl, Below.refl _ _⟩
    case round =>
      obtain ⟨k, hk, rfl, heq, hbel⟩ := hrel
      have BB := hid hbel
      have EQ := hid heq
      clear hbel heq
      by_cases hlt : k < L1.length
      · obtain ⟨p1, o1, l1, d1, t1, m1, A1, k1, rfl, hx, q1, hc1⟩ := chrow_at R1.out P1.out rfl hlt
        obtain ⟨p2, o2, l2, d2, t2, m2, A2, k2, rfl, hy, q2, hc2⟩ := chrow_at R2.out P2.out rfl (k := k) (by have := HL.out; omega)
        have hlt2 : k < L2.length := by have := HL.out; omega
        have EC1 := hid hc1
        have EC2 := hid hc2
        have Q1 := hid q1
        have Q2 := hid q2
        have HX := hid hx
        have HY := hid hy
        clear hc1 hc2 q1 q2 hx hy
        go_upto_region 6 with fail
        refine wp_region_hand (fun w' => Below w.heap.size w w') (by kernel_rfl) ?_
        simp only [List.length_cons, List.length_nil, Nat.zero_add, Nat.reduceAdd]
        have hS : Below w.heap.size w wr.drew := Below.drew BB.out
        refine take_at (i := 0) (v := ?_) rfl rfl (by kernel_rfl) (by kernel_rfl) (by kernel_rfl) (fun _ _ _ h => h) (Or.inl ⟨by rfl, ?_⟩) hS ?_
        rotate_left
        · intro w hSw; (try dsimp only at hSw); go_simp; try with_reducible rfl
        try simp only [List.setIfInBounds_toArray, List.set_cons_zero, List.set_cons_succ]
        refine take_at (i := 1) (v := ?_) rfl rfl (by kernel_rfl) (by kernel_rfl) (by kernel_rfl) (fun _ _ _ h => h) (Or.inl ⟨by rfl, ?_⟩) hS ?_
        rotate_left
        · intro w hSw; (try dsimp only at hSw); go_simp; try with_reducible rfl
        try simp only [List.setIfInBounds_toArray, List.set_cons_zero, List.set_cons_succ]
        refine take_at (i := 2) (v := ?_) rfl rfl (by kernel_rfl) (by kernel_rfl) (by kernel_rfl) (fun _ _ _ h => h) (Or.inl ⟨by rfl, ?_⟩) hS ?_
        rotate_left
        · intro w hSw; (try dsimp only at hSw); go_simp; try with_reducible rfl
        try simp only [List.setIfInBounds_toArray, List.set_cons_zero, List.set_cons_succ]
        refine take_at (i := 3) (v := .agg #[.int .i64 l1, .int .i64 d1, .bool t1, .slice A1 m1.length k1]) rfl rfl (by kernel_rfl) (by kernel_rfl) (by kernel_rfl) (fun _ _ _ h => h) (Or.inl ⟨by rfl, fun wi hSw => exec_loads (p := .pointer (some ⟨p1, o1 + k * 4, none⟩)) rfl rfl (load_four (EC1.out wi hSw).1 (EC1.out wi hSw).2.1 (EC1.out wi hSw).2.2.1 (EC1.out wi hSw).2.2.2 Try.underlying47 rfl (by kernel_rfl))⟩) hS ?_
        try simp only [List.setIfInBounds_toArray, List.set_cons_zero, List.set_cons_succ]
        refine take_at (i := 4) (v := ?_) rfl rfl (by kernel_rfl) (by kernel_rfl) (by kernel_rfl) (fun _ _ _ h => h) (Or.inl ⟨by rfl, ?_⟩) hS ?_
        rotate_left
        · intro w hSw; (try dsimp only at hSw); go_simp; try with_reducible rfl
        try simp only [List.setIfInBounds_toArray, List.set_cons_zero, List.set_cons_succ]
        refine take_at (i := 5) (v := ?_) rfl rfl (by kernel_rfl) (by kernel_rfl) (by kernel_rfl) (fun _ _ _ h => h) (Or.inl ⟨by rfl, ?_⟩) hS ?_
        rotate_left
        · intro w hSw; (try dsimp only at hSw); go_simp; try with_reducible rfl
        try simp only [List.setIfInBounds_toArray, List.set_cons_zero, List.set_cons_succ]
        refine take_at (i := 6) (v := ?_) rfl rfl (by kernel_rfl) (by kernel_rfl) (by kernel_rfl) (fun _ _ _ h => h) (Or.inl ⟨by rfl, ?_⟩) hS ?_
        rotate_left
        · intro w hSw; (try dsimp only at hSw); go_simp; try with_reducible rfl
        try simp only [List.setIfInBounds_toArray, List.set_cons_zero, List.set_cons_succ]
        refine take_at (i := 7) (v := .agg #[.int .i64 l2, .int .i64 d2, .bool t2, .slice A2 m2.length k2]) rfl rfl (by kernel_rfl) (by kernel_rfl) (by kernel_rfl) (fun _ _ _ h => h) (Or.inl ⟨by rfl, fun wi hSw => exec_loads (p := .pointer (some ⟨p2, o2 + k * 4, none⟩)) rfl rfl (load_four (EC2.out wi hSw).1 (EC2.out wi hSw).2.1 (EC2.out wi hSw).2.2.1 (EC2.out wi hSw).2.2.2 Try.underlying47 rfl (by kernel_rfl))⟩) hS ?_
        try simp only [List.setIfInBounds_toArray, List.set_cons_zero, List.set_cons_succ]
        refine wpAnyH_ready (rs := [8]) (by kernel_rfl) (by simp) ?_
        refine AllReadyH.cons rfl (fun K hK => ?_) AllReadyH.nil
        go_simp
        (go_at_call 26; refine (child_any l1 d1 l2 d2 t1 t2 A1 A2 k1 k2 m1.length m2.length m1 m2 _ (Q1.out.below (Below.drew BB.out)) (Q2.out.below (Below.drew BB.out)) rfl rfl (LB.out _ (List.mem_of_getElem? HX.out))).mono ?_; rintro e w5 ⟨rfl, hb⟩; have B5 := hid (BB.out.trans ((show Below wr.heap.size wr w5 from (Below.drew (Below.refl _ _)).trans hb).mono BB.out.size)); clear hb hS)
        refine hK.out _ _ B5.out (fun hS => ?_)
        clear hK K
        try simp only [Act.put, List.setIfInBounds_toArray, List.set_cons_zero, List.set_cons_succ]
        obtain ⟨Q, hQ⟩ : ∃ Q, decide (((l1, d1, t1, m1) : Ch) = (l2, d2, t2, m2)) = Q := ⟨_, rfl⟩
        rw [hQ]
        cases Q with
        | true =>
          have SM := hid (of_decide_eq_true hQ)
          clear hQ
          refine take_at (i := 9) (v := ?_) rfl rfl (by kernel_rfl) (by kernel_rfl) (by kernel_rfl) (fun _ _ _ h => h) (Or.inl ⟨by rfl, ?_⟩) hS ?_
          rotate_left
          · intro w hSw; (try dsimp only at hSw); go_simp; try with_reducible rfl
          try simp only [List.setIfInBounds_toArray, List.set_cons_zero, List.set_cons_succ]
          refine wpAnyH_done (by kernel_rfl) ?_ _
          simp only [Sure, Exit.then]
          clear hS
          go_wp2
          go_roundw
          case rel => exact ⟨k + 1, by omega, by go_num, by rw [List.take_add_one, List.take_add_one, EQ.out, HX.out, HY.out, SM.out], B5.out⟩
          case measure => simp [intOf]; omega
        | false =>
          have R : Hid (false = decide (L1 = L2)) := hid (by
            have h0 := of_decide_eq_false hQ
            simp
            intro h
            have h1 := HX.out
            rw [h, HY.out] at h1
            injection h1 with h1
            exact h0 h1.symm)
          clear hQ
          refine take_at (i := 9) (v := ?_) rfl rfl (by kernel_rfl) (by kernel_rfl) (by kernel_rfl) (fun _ _ _ h => h) (Or.inl ⟨by rfl, ?_⟩) hS ?_
          rotate_left
          · intro w hSw; (try dsimp only at hSw); go_simp; try with_reducible rfl
          try simp only [List.setIfInBounds_toArray, List.set_cons_zero, List.set_cons_succ]
          refine wpAnyH_done (by kernel_rfl) ?_ _
          simp only [Sure, Exit.then]
          clear hS
          go_wp2
          go_ret
          exact ⟨ret_b R.out, B5.out⟩
      · obtain rfl : k = L1.length := by omega
        have R : Hid (true = decide (L1 = L2)) := hid (by
          have := EQ.out
          rw [List.take_of_length_le (Nat.le_refl _), List.take_of_length_le (by have := HL.out; omega)] at this
          simp [this])
        go_wp2
        go_ret
        exact ⟨ret_b R.out, BB.out⟩
  · have R : Hid (false = decide (L1 = L2)) := hid (by
      simp
      intro h
      exact hl (by rw [h]))
    go_enter Try.func21, Try.ntmps21
    go_wp2
    go_ret
    exact ⟨ret_b R.out, Below.refl _ _⟩
end Go.Proofs.Ytccgbojcghbdcaa
