/- Chapter 39: children: Turned, Place, equal ones. -/
import Derived.Test.YtccgbojcghbdcaaSl5
import Derived.Test.YtccgbojcghbdcaaSl2
import Derived.Deep.RegionHeld3
namespace Go.Proofs.Ytccgbojcghbdcaa
open Go.RowKit

theorem infoR : (Try.prog.info? 69).map (fun i => (i.zero, i.size, i.bytes)) = some (some (.agg #[.int .i64 0, .int .i64 0, .bool false]), 3, 24) := by kernel_rfl
theorem Chg.row {S : Nat → Prop} {w w1 : World} (h : Chg S w w1) {g : Nat} (hg : S g) (cs : Array Value) : Chg S w (w1.setRow g cs) :=
  ⟨h.os, h.tape, h.output, by simpa [World.setRow] using h.size, fun k hk hn => (setRow_other w1 g k cs (fun e => hn (by subst e; exact hg))).trans (h.block k hk hn)⟩
theorem cellsR_one : ∀ (m : List Ru), ∀ u ∈ cellsR m, u.oneCell' = true
  | [], u, h => by simp [cellsR] at h
  | r :: m, u, h => by
    simp only [cellsR, List.mem_cons] at h
    rcases h with rfl | rfl | rfl | h
    · rfl
    · rfl
    · rfl
    · exact cellsR_one m u h
/-- A row of runs in new memory. -/
def NewR (w w' : World) (u : Value) (m : List Ru) : Prop := w'.ownsRow w.heap.size 69 3 u m.length (cellsR m) ∧ Below w.heap.size w w'
set_option maxHeartbeats 1000000 in
theorem rclone_any (a : Option Addr) (c n : Nat) (m : List Ru) (w : World) (r : Rds Nn w 3 a n (cellsR m)) (hn : n = m.length) (hl : n ≤ 1000000) : Calls Try.prog 39 #[.slice a n c] w fun e w' => ∃ u, e = .returned u ∧ NewR w w' u m := by
  have R := hid r
  have N := hid hn
  clear hn
  cases a with
  | none =>
    have h0 : n = 0 := by
      rcases Nat.eq_zero_or_pos n with h | h
      · exact h
      · obtain ⟨p, o, hA, _⟩ := Rds.plain r h (by decide)
        cases hA
    subst h0
    have hq := eql_nil0 (P := Try.prog) w 45 69 0 c Try.underlying45
    have L0 : Hid (m = []) := hid (List.length_eq_zero_iff.1 N.out.symm)
    clear r
    go_enter Try.func39, Try.ntmps39
    go_wp2
    go_ret
    refine ⟨_, rfl, ?_, Below.refl _ _⟩
    rw [L0.out]
    exact own_nil _ _ _ _
  | some ad =>
    have hq := eql_nil (P := Try.prog) w 45 69 ad n c Try.underlying45
    clear r
    go_enter Try.func39, Try.ntmps39
    go_wp2_with (at_builtin; refine wpList_app infoR Try.underlying45 (by kernel_rfl) (by omega) (by omega) (own_empty w 0 (Nat.zero_le _) _ _) (R.out.allocS _) (cellsR_one _) (by omega) rfl rfl rfl rfl ?_; intro u6 w6 hown hchg hnew; have O6 := hid hown; have B6 := hid (chg_new hchg); have G6 := hid (newer_new hnew); clear hown hchg hnew)
    go_ret
    refine ⟨_, rfl, ?_, B6.out⟩
    have := own_rebase O6.out (base' := w.heap.size) (fun g hg => G6.out g hg)
    rw [Nat.zero_add, List.nil_append, N.out] at this
    exact this
def tuErr (l wd : Int) (m : List Ru) : Int := if liesB 12000 l wd = true then runErr m else 1
def TuPost (l wd : Int) (t : Bool) (n : Nat) (m : List Ru) (w : World) : Ending → World → Prop := fun e w' => ((tuErr l wd m ≠ 0 ∧ e = .returned (.tuple #[.agg #[.int .i64 0, .int .i64 0, .bool false, .slice none 0 0], .int .i64 (tuErr l wd m)])) ∨ (tuErr l wd m = 0 ∧ ∃ A c, e = .returned (.tuple #[.agg #[.int .i64 l, .int .i64 wd, .bool (!t), .slice A n c], .int .i64 0]) ∧ Rds Nn w' 3 A n (cellsR m))) ∧ Below w.heap.size w w'
theorem tu_1 {l wd : Int} {m : List Ru} (h : liesB 12000 l wd = false) : 1 = tuErr l wd m := by unfold tuErr; rw [if_neg (by rw [h]; decide)]
theorem tu_r {l wd : Int} {m : List Ru} (h : liesB 12000 l wd = true) : runErr m = tuErr l wd m := by unfold tuErr; rw [if_pos h]
theorem tu_no {l wd x : Int} {t : Bool} {n : Nat} {m : List Ru} {w w' : World} (h : x = tuErr l wd m) (h0 : x ≠ 0) (hb : Below w.heap.size w w') : TuPost l wd t n m w (.returned (.tuple #[.agg #[.int .i64 0, .int .i64 0, .bool false, .slice none 0 0], .int .i64 x])) w' := by
  subst h
  exact ⟨.inl ⟨h0, rfl⟩, hb⟩
theorem tu_ok {l wd : Int} {t : Bool} {n c : Nat} {A : Option Addr} {m : List Ru} {w w' : World} (h : tuErr l wd m = 0) (r : Rds Nn w' 3 A n (cellsR m)) (hb : Below w.heap.size w w') : TuPost l wd t n m w (.returned (.tuple #[.agg #[.int .i64 l, .int .i64 wd, .bool (!t), .slice A n c], .int .i64 0])) w' := ⟨.inr ⟨h, A, c, rfl, r⟩, hb⟩
set_option linter.unusedSimpArgs false in
set_option maxRecDepth 100000 in
set_option maxHeartbeats 4000000 in
theorem turned_any (l wd : Int) (t : Bool) (a : Option Addr) (c n : Nat) (m : List Ru) (w : World) (r : Rds Nn w 3 a n (cellsR m)) (hn : n = m.length) (hl : n ≤ maxLen) : Calls Try.prog 22 #[.agg #[.int .i64 l, .int .i64 wd, .bool t, .slice a n c]] w (TuPost l wd t n m w) := by
  have R1 := hid r
  have HN := hid hn
  clear r hn
  have D0 := hid (Blk.alloc (Blk.at_new w (b := w.heap.size) (t := 47) (cs := #[.int .i64 l, .int .i64 wd, .bool t, .slice a n c]) rfl) (.cells #[.int .i64 0, .int .i64 0, .bool false, .slice none 0 0] 47))
  have Z0 := hid (Blk.at_new (w.alloc (.cells #[.int .i64 l, .int .i64 wd, .bool t, .slice a n c] 47)) (b := w.heap.size + 1) (t := 47) (cs := #[.int .i64 0, .int .i64 0, .bool false, .slice none 0 0]) (by simp))
  have B0 := hid (((Below.refl w.heap.size w).alloc (Nat.le_refl _) (.cells #[.int .i64 l, .int .i64 wd, .bool t, .slice a n c] 47)).alloc (by simp) (.cells #[.int .i64 0, .int .i64 0, .bool false, .slice none 0 0] 47))
  go_enter Try.func22, Try.ntmps22
  go_upto_region 1 with fail
  generalize ((w.alloc (.cells #[.int .i64 l, .int .i64 wd, .bool t, .slice a n c] 47)).alloc (.cells #[.int .i64 0, .int .i64 0, .bool false, .slice none 0 0] 47)) = wq at D0 Z0 B0 ⊢
  have c0 := D0.out.cell
  go_wp2_with fail
  refine (lies_any 12000 l wd _ (by omega)).mono ?_
  rintro e w1 ⟨rfl, hb⟩
  have D1 := hid (D0.out.below hb D0.out.lt)
  have Z1 := hid (Z0.out.below hb Z0.out.lt)
  have B1 := hid (B0.out.trans (hb.mono B0.out.size))
  clear hb c0
  obtain ⟨R, hR⟩ : ∃ R, liesB 12000 l wd = R := ⟨_, rfl⟩
  rw [hR]
  have c1 := D1.out.cell
  cases R with
  | false =>
    have TE := hid (tu_1 (m := m) hR)
    clear hR
    go_wp2_with (refine wpList_store_blk2 (t := 47) (e := 47) (cs0 := #[.int .i64 0, .int .i64 0, .bool false, .slice none 0 0]) (cs := #[.int .i64 0, .int .i64 0, .bool false, .slice none 0 0]) rfl rfl rfl rfl (by kernel_rfl) rfl (by simp [Value.oneCell']) Z1.out ?_)
    refine bodyPost_ret (v := .tuple #[.agg #[.int .i64 0, .int .i64 0, .bool false, .slice none 0 0], .int .i64 1]) (results_cell_tmp rfl rfl rfl (Blk.row Z1.out _) Try.underlying47 rfl (by kernel_rfl)) rfl ?_
    exact tu_no TE.out (by decide) (Below.row B1.out (by have := D1.out.lt; omega) _)
  | true =>
  have TE := hid (tu_r (m := m) hR)
  clear hR
  go_wp2_with fail
  refine (pcheckR_any a c n m _ (R1.out.below B1.out) HN.out hl).mono ?_
  rintro e w2 ⟨rfl, hb⟩
  have D2 := hid (D1.out.below hb D1.out.lt)
  have Z2 := hid (Z1.out.below hb Z1.out.lt)
  have B2 := hid (B1.out.trans (hb.mono B1.out.size))
  clear hb c1
  by_cases hz : runErr m = 0
  rotate_left
  · have hz2 : (runErr m != 0) = true := by simpa using hz
    have HZ := hid hz
    clear hz
    go_wp2_with (refine wpList_store_blk2 (t := 47) (e := 47) (cs0 := #[.int .i64 0, .int .i64 0, .bool false, .slice none 0 0]) (cs := #[.int .i64 0, .int .i64 0, .bool false, .slice none 0 0]) rfl rfl rfl rfl (by kernel_rfl) rfl (by simp [Value.oneCell']) Z2.out ?_)
    refine bodyPost_ret (v := .tuple #[.agg #[.int .i64 0, .int .i64 0, .bool false, .slice none 0 0], .int .i64 _]) (results_cell_tmp rfl rfl rfl (Blk.row Z2.out _) Try.underlying47 rfl (by kernel_rfl)) rfl ?_
    exact tu_no TE.out HZ.out (Below.row B2.out (by have := D2.out.lt; omega) _)
  have RO := hid (re_ok hz)
  have T0 : Hid (tuErr l wd m = 0) := hid (by rw [← TE.out, hz])
  rw [hz]
  clear hz
  have n256 : n ≤ 256 := by rw [HN.out]; exact RO.out.1
  have c2 := D2.out.cell
  have z2 := D2.out.frozen
  go_upto_region 6 with fail
  go_region_with (first
    | (go_at_call 39; refine (rclone_any a c n m _ (R1.out.below (Below.drew B2.out)) HN.out (by omega)).mono ?_; rintro e w5 ⟨u, rfl, hu, hb⟩; have D5 := hid (Blk.below (Blk.drew D2.out) hb D2.out.lt); have Z5 := hid (Blk.below (Blk.drew Z2.out) hb Z2.out.lt); have B5 := hid (B2.out.trans ((show Below w2.heap.size w2 w5 from (Below.drew (Below.refl _ _)).trans hb).mono B2.out.size)); rw [← HN.out] at hu; obtain ⟨A5, c5, rfl, _, _⟩ := own_form hu; have R5 := hid (Rds.own hu (S := fun g => g = w.heap.size ∨ g = w.heap.size + 1) (fun g hg e => by have h1 : w2.heap.size ≤ g := (own_blk hu g hg).1; have h2 := Z2.out.lt; omega)); have c5' := D5.out.cell; have z5' := D5.out.frozen; clear hb hu))
  all_goals
    simp only [Exit.then]
    have D7 : Hid (Blk ((w5.setCell ⟨w.heap.size, 2, none⟩ (.bool (!t))).setCell ⟨w.heap.size, 3, none⟩ (.slice A5 n c5)) w.heap.size 47 #[.int .i64 l, .int .i64 wd, .bool (!t), .slice A5 n c5]) := hid (Blk.set (Blk.set D5.out 2 (.bool (!t))) 3 (.slice A5 n c5))
    have Z7 : Hid (Blk ((w5.setCell ⟨w.heap.size, 2, none⟩ (.bool (!t))).setCell ⟨w.heap.size, 3, none⟩ (.slice A5 n c5)) (w.heap.size + 1) 47 #[.int .i64 0, .int .i64 0, .bool false, .slice none 0 0]) := hid (Blk.other (Blk.other Z5.out (by simp) _) (by simp) _)
    have B7 : Hid (Below w.heap.size w ((w5.setCell ⟨w.heap.size, 2, none⟩ (.bool (!t))).setCell ⟨w.heap.size, 3, none⟩ (.slice A5 n c5))) := hid (Below.setCell (Below.setCell B5.out (by simp) _) (by simp) _)
    have R7 : Hid (Rds (fun g => g = w.heap.size ∨ g = w.heap.size + 1) ((w5.setCell ⟨w.heap.size, 2, none⟩ (.bool (!t))).setCell ⟨w.heap.size, 3, none⟩ (.slice A5 n c5)) 3 A5 n (cellsR m)) := hid (((R5.out.keep ((Chg.refl _ _).setCell (a := ⟨w.heap.size, 2, none⟩) (.inl (.inl rfl)) _)).keep ((Chg.refl _ _).setCell (a := ⟨w.heap.size, 3, none⟩) (.inl (.inl rfl)) _)))
    clear c5' z5' c2 z2 R5
    generalize ((w5.setCell ⟨w.heap.size, 2, none⟩ (.bool (!t))).setCell ⟨w.heap.size, 3, none⟩ (.slice A5 n c5)) = w7 at D7 Z7 B7 R7 ⊢
    go_wp2_with (first
      | (refine wpList_load_blk2 (t := 47) rfl rfl rfl Try.underlying47 rfl (by kernel_rfl) D7.out ?_)
      | (refine wpList_store_blk2 (t := 47) (e := 47) (cs0 := #[.int .i64 0, .int .i64 0, .bool false, .slice none 0 0]) (cs := #[.int .i64 l, .int .i64 wd, .bool (!t), .slice A5 n c5]) rfl rfl rfl rfl (by kernel_rfl) rfl (by simp [Value.oneCell']) Z7.out ?_))
    refine bodyPost_ret (v := .tuple #[.agg #[.int .i64 l, .int .i64 wd, .bool (!t), .slice A5 n c5], .int .i64 0]) (results_cell_tmp rfl rfl rfl (Blk.row Z7.out _) Try.underlying47 rfl (by kernel_rfl)) rfl ?_
    exact tu_ok T0.out ((R7.out.keep ((Chg.refl _ _).row (.inr rfl) _)).mono_set (fun _ _ h => h.elim)) (Below.row B7.out (by omega) _)
end Go.Proofs.Ytccgbojcghbdcaa
