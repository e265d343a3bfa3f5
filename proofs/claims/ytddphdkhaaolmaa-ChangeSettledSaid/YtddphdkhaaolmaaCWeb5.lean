/- Chapter 28: the reference's Run. -/
import Derived.Test.YtddphdkhaaolmaaCWeb4
import Derived.Test.YtddphdkhaaolmaaHand
namespace Go.Proofs.Ytddphdkhaaolmaa
open Go.RowKit

def ColN (w : World) (n : Nat) (l : List Int) : Ending → World → Prop := fun e w' => ∃ A c, e = .returned (.slice A n c) ∧ w'.ownsRow w.heap.size 3 1 (.slice A n c) n (ints l) ∧ Below w.heap.size w w'
theorem coln_of {w : World} {n : Nat} {l : List Int} (hn : n = l.length) : ∀ e w', ColPost w l e w' → ColN w n l e w' := by
  subst hn
  rintro e w' ⟨u, rfl, hu, hb⟩
  obtain ⟨A, c, rfl, _, _⟩ := own_form hu
  exact ⟨A, c, rfl, hu, hb⟩
theorem basis_n (a : Option Addr) (c n : Nat) (rs : List (List Int)) (w : World) (r : Rds Nn w 2 a n (ints rs.flatten)) (t : ∀ r ∈ rs, r.length = 2) (hn : n = rs.length) (hl : n ≤ 1000000) : Calls Try.prog 54 #[.slice a n c] w (ColN w n (col 0 rs)) := (basis_any a c n rs w r t hn hl).mono (coln_of (by rw [col_len]; exact hn))
theorem moist_n (a : Option Addr) (c n : Nat) (rs : List (List Int)) (w : World) (r : Rds Nn w 2 a n (ints rs.flatten)) (t : ∀ r ∈ rs, r.length = 2) (hn : n = rs.length) (hl : n ≤ 1000000) : Calls Try.prog 55 #[.slice a n c] w (ColN w n (col 1 rs)) := (moist_any a c n rs w r t hn hl).mono (coln_of (by rw [col_len]; exact hn))
theorem own_later {w w' : World} {N n sz : Nat} {e : TypeId} {v : Value} {xs : List Value} (h : w.ownsRow N e sz v n xs) (hb : Below w.heap.size w w') : w'.ownsRow N e sz v n xs :=
  own_keep h (Chg.of_below (S := fun j => w.heap.size ≤ j) hb (fun _ _ h => h)) (fun g hg e => by have := (own_blk h g hg).2; omega)
theorem part_b (b m : CP) (cp : Int) : ∀ (j : Nat) (v : Value), (#[.int .i64 b.kp, .int .i64 b.ki, .int .i64 b.sh, .int .i64 b.lo, .int .i64 b.hi, .int .i64 b.rate, .int .i64 b.ga, .int .i64 b.la, .int .i64 b.de] : Array Value)[j]? = some v → (#[.int .i64 b.kp, .int .i64 b.ki, .int .i64 b.sh, .int .i64 b.lo, .int .i64 b.hi, .int .i64 b.rate, .int .i64 b.ga, .int .i64 b.la, .int .i64 b.de, .int .i64 m.kp, .int .i64 m.ki, .int .i64 m.sh, .int .i64 m.lo, .int .i64 m.hi, .int .i64 m.rate, .int .i64 m.ga, .int .i64 m.la, .int .i64 m.de, .int .i64 cp] : Array Value)[0 + j]? = some v := fun j v hj => by
  rcases j with _ | _ | _ | _ | _ | _ | _ | _ | _ | j <;> first | exact hj | (simp at hj)
theorem part_m (b m : CP) (cp : Int) : ∀ (j : Nat) (v : Value), (#[.int .i64 m.kp, .int .i64 m.ki, .int .i64 m.sh, .int .i64 m.lo, .int .i64 m.hi, .int .i64 m.rate, .int .i64 m.ga, .int .i64 m.la, .int .i64 m.de] : Array Value)[j]? = some v → (#[.int .i64 b.kp, .int .i64 b.ki, .int .i64 b.sh, .int .i64 b.lo, .int .i64 b.hi, .int .i64 b.rate, .int .i64 b.ga, .int .i64 b.la, .int .i64 b.de, .int .i64 m.kp, .int .i64 m.ki, .int .i64 m.sh, .int .i64 m.lo, .int .i64 m.hi, .int .i64 m.rate, .int .i64 m.ga, .int .i64 m.la, .int .i64 m.de, .int .i64 cp] : Array Value)[9 + j]? = some v := fun j v hj => by
  rcases j with _ | _ | _ | _ | _ | _ | _ | _ | _ | j <;> first | exact hj | (simp at hj)
set_option linter.unusedSimpArgs false in
set_option maxRecDepth 100000 in
set_option maxHeartbeats 16000000 in
theorem rwrun_any (b m : CP) (cp oB oM vB vM : Int) (a1 a2 : Option Addr) (c1 c2 n1 n2 : Nat) (S D : List (List Int)) (w : World) (r1 : Rds Nn w 2 a1 n1 (ints S.flatten)) (r2 : Rds Nn w 2 a2 n2 (ints D.flatten)) (t1 : ∀ r ∈ S, r.length = 2) (t2 : ∀ r ∈ D, r.length = 2) (h1 : n1 = S.length) (h2 : n2 = D.length) (hl1 : n1 ≤ 1000000) (hl2 : n2 ≤ 1000000) : Calls Try.prog 36 #[.agg #[.int .i64 b.kp, .int .i64 b.ki, .int .i64 b.sh, .int .i64 b.lo, .int .i64 b.hi, .int .i64 b.rate, .int .i64 b.ga, .int .i64 b.la, .int .i64 b.de, .int .i64 m.kp, .int .i64 m.ki, .int .i64 m.sh, .int .i64 m.lo, .int .i64 m.hi, .int .i64 m.rate, .int .i64 m.ga, .int .i64 m.la, .int .i64 m.de, .int .i64 cp], .agg #[.int .i64 oB, .int .i64 oM, .int .i64 vB, .int .i64 vM], .slice a1 n1 c1, .slice a2 n2 c2] w (WPost b m cp oB oM vB vM S D w) := by
  have R1 := hid r1
  have R2 := hid r2
  have TT1 := hid t1
  have TT2 := hid t2
  have N1 := hid h1
  have N2 := hid h2
  clear r1 r2 t1 t2 h1 h2
  by_cases hc : chkW b m cp = 0
  rotate_left
  · have R : Hid (chkW b m cp = wErr b m cp oB oM vB vM S D) := hid (wErr_chk hc)
    have RN := hid hc
    have hz : (chkW b m cp != 0) = true := by simpa using hc
    clear hc
    go_enter Try.func36, Try.ntmps36
    go_wp2_with (refine wpList_load_blk (t := 29) (Blk.alloc (Blk.at_new w rfl) _) Try.underlying29 rfl (by kernel_rfl) rfl rfl rfl ?_)
    refine (rwcheck_any b m cp _).mono ?_
    rintro e w1 ⟨rfl, hb⟩
    have W1 : Hid (Blk w1 (w.heap.size) 29 #[.int .i64 b.kp, .int .i64 b.ki, .int .i64 b.sh, .int .i64 b.lo, .int .i64 b.hi, .int .i64 b.rate, .int .i64 b.ga, .int .i64 b.la, .int .i64 b.de, .int .i64 m.kp, .int .i64 m.ki, .int .i64 m.sh, .int .i64 m.lo, .int .i64 m.hi, .int .i64 m.rate, .int .i64 m.ga, .int .i64 m.la, .int .i64 m.de, .int .i64 cp]) := hid (Blk.below (Blk.alloc (Blk.at_new _ (by simp)) _) hb (by simp <;> omega))
    have T1 : Hid (Blk w1 (w.heap.size + 1) 76 #[.int .i64 oB, .int .i64 oM, .int .i64 vB, .int .i64 vM]) := hid (Blk.below (Blk.at_new _ (by simp)) hb (by simp <;> omega))
    have B1 : Hid (Below w.heap.size w w1) := hid (Below.trans (((Below.refl _ _).alloc (by simp <;> omega) _).alloc (by simp <;> omega) _) (hb.mono (by simp <;> omega)))
    clear hb
    have cW_0 : ∀ (i : Nat), w1.cell? ⟨w.heap.size, i, none⟩ = (#[.int .i64 b.kp, .int .i64 b.ki, .int .i64 b.sh, .int .i64 b.lo, .int .i64 b.hi, .int .i64 b.rate, .int .i64 b.ga, .int .i64 b.la, .int .i64 b.de, .int .i64 m.kp, .int .i64 m.ki, .int .i64 m.sh, .int .i64 m.lo, .int .i64 m.hi, .int .i64 m.rate, .int .i64 m.ga, .int .i64 m.la, .int .i64 m.de, .int .i64 cp] : Array Value)[i]? := Blk.cell W1.out
    have cW_1 : ∀ (o0 : Obj) (i : Nat), (w1.alloc o0).cell? ⟨w.heap.size, i, none⟩ = (#[.int .i64 b.kp, .int .i64 b.ki, .int .i64 b.sh, .int .i64 b.lo, .int .i64 b.hi, .int .i64 b.rate, .int .i64 b.ga, .int .i64 b.la, .int .i64 b.de, .int .i64 m.kp, .int .i64 m.ki, .int .i64 m.sh, .int .i64 m.lo, .int .i64 m.hi, .int .i64 m.rate, .int .i64 m.ga, .int .i64 m.la, .int .i64 m.de, .int .i64 cp] : Array Value)[i]? := fun _ => Blk.cell (Blk.alloc W1.out _)
    have cT_0 : ∀ (i : Nat), w1.cell? ⟨w.heap.size + 1, i, none⟩ = (#[.int .i64 oB, .int .i64 oM, .int .i64 vB, .int .i64 vM] : Array Value)[i]? := Blk.cell T1.out
    have cT_1 : ∀ (o0 : Obj) (i : Nat), (w1.alloc o0).cell? ⟨w.heap.size + 1, i, none⟩ = (#[.int .i64 oB, .int .i64 oM, .int .i64 vB, .int .i64 vM] : Array Value)[i]? := fun _ => Blk.cell (Blk.alloc T1.out _)
    go_wp2
    go_ret2
    exact wr_bad R.out (by first | decide | exact RN.out) B1.out
  have HC := hid hc
  by_cases h5 : 512 < n1
  · have R : Hid (8 = wErr b m cp oB oM vB vM S D) := hid (wErr_full hc (by rw [← N1.out]; exact h5))
    clear hc
    go_enter Try.func36, Try.ntmps36
    go_wp2_with (refine wpList_load_blk (t := 29) (Blk.alloc (Blk.at_new w rfl) _) Try.underlying29 rfl (by kernel_rfl) rfl rfl rfl ?_)
    refine (rwcheck_any b m cp _).mono ?_
    rintro e w1 ⟨rfl, hb⟩
    have W1 : Hid (Blk w1 (w.heap.size) 29 #[.int .i64 b.kp, .int .i64 b.ki, .int .i64 b.sh, .int .i64 b.lo, .int .i64 b.hi, .int .i64 b.rate, .int .i64 b.ga, .int .i64 b.la, .int .i64 b.de, .int .i64 m.kp, .int .i64 m.ki, .int .i64 m.sh, .int .i64 m.lo, .int .i64 m.hi, .int .i64 m.rate, .int .i64 m.ga, .int .i64 m.la, .int .i64 m.de, .int .i64 cp]) := hid (Blk.below (Blk.alloc (Blk.at_new _ (by simp)) _) hb (by simp <;> omega))
    have T1 : Hid (Blk w1 (w.heap.size + 1) 76 #[.int .i64 oB, .int .i64 oM, .int .i64 vB, .int .i64 vM]) := hid (Blk.below (Blk.at_new _ (by simp)) hb (by simp <;> omega))
    have B1 : Hid (Below w.heap.size w w1) := hid (Below.trans (((Below.refl _ _).alloc (by simp <;> omega) _).alloc (by simp <;> omega) _) (hb.mono (by simp <;> omega)))
    clear hb
    have cW_0 : ∀ (i : Nat), w1.cell? ⟨w.heap.size, i, none⟩ = (#[.int .i64 b.kp, .int .i64 b.ki, .int .i64 b.sh, .int .i64 b.lo, .int .i64 b.hi, .int .i64 b.rate, .int .i64 b.ga, .int .i64 b.la, .int .i64 b.de, .int .i64 m.kp, .int .i64 m.ki, .int .i64 m.sh, .int .i64 m.lo, .int .i64 m.hi, .int .i64 m.rate, .int .i64 m.ga, .int .i64 m.la, .int .i64 m.de, .int .i64 cp] : Array Value)[i]? := Blk.cell W1.out
    have cW_1 : ∀ (o0 : Obj) (i : Nat), (w1.alloc o0).cell? ⟨w.heap.size, i, none⟩ = (#[.int .i64 b.kp, .int .i64 b.ki, .int .i64 b.sh, .int .i64 b.lo, .int .i64 b.hi, .int .i64 b.rate, .int .i64 b.ga, .int .i64 b.la, .int .i64 b.de, .int .i64 m.kp, .int .i64 m.ki, .int .i64 m.sh, .int .i64 m.lo, .int .i64 m.hi, .int .i64 m.rate, .int .i64 m.ga, .int .i64 m.la, .int .i64 m.de, .int .i64 cp] : Array Value)[i]? := fun _ => Blk.cell (Blk.alloc W1.out _)
    have cT_0 : ∀ (i : Nat), w1.cell? ⟨w.heap.size + 1, i, none⟩ = (#[.int .i64 oB, .int .i64 oM, .int .i64 vB, .int .i64 vM] : Array Value)[i]? := Blk.cell T1.out
    have cT_1 : ∀ (o0 : Obj) (i : Nat), (w1.alloc o0).cell? ⟨w.heap.size + 1, i, none⟩ = (#[.int .i64 oB, .int .i64 oM, .int .i64 vB, .int .i64 vM] : Array Value)[i]? := fun _ => Blk.cell (Blk.alloc T1.out _)
    rw [HC.out]
    go_wp2
    go_ret2
    exact wr_bad R.out (by first | decide | exact RN.out) B1.out
  by_cases hl : n2 = n1
  rotate_left
  · have R : Hid (3 = wErr b m cp oB oM vB vM S D) := hid (wErr_form hc (by rw [← N1.out]; exact h5) (by rw [← N1.out, ← N2.out]; exact hl))
    have hz : ((n2 : Int) != (n1 : Int)) = true := by simp; omega
    clear hc
    go_enter Try.func36, Try.ntmps36
    go_wp2_with (refine wpList_load_blk (t := 29) (Blk.alloc (Blk.at_new w rfl) _) Try.underlying29 rfl (by kernel_rfl) rfl rfl rfl ?_)
    refine (rwcheck_any b m cp _).mono ?_
    rintro e w1 ⟨rfl, hb⟩
    have W1 : Hid (Blk w1 (w.heap.size) 29 #[.int .i64 b.kp, .int .i64 b.ki, .int .i64 b.sh, .int .i64 b.lo, .int .i64 b.hi, .int .i64 b.rate, .int .i64 b.ga, .int .i64 b.la, .int .i64 b.de, .int .i64 m.kp, .int .i64 m.ki, .int .i64 m.sh, .int .i64 m.lo, .int .i64 m.hi, .int .i64 m.rate, .int .i64 m.ga, .int .i64 m.la, .int .i64 m.de, .int .i64 cp]) := hid (Blk.below (Blk.alloc (Blk.at_new _ (by simp)) _) hb (by simp <;> omega))
    have T1 : Hid (Blk w1 (w.heap.size + 1) 76 #[.int .i64 oB, .int .i64 oM, .int .i64 vB, .int .i64 vM]) := hid (Blk.below (Blk.at_new _ (by simp)) hb (by simp <;> omega))
    have B1 : Hid (Below w.heap.size w w1) := hid (Below.trans (((Below.refl _ _).alloc (by simp <;> omega) _).alloc (by simp <;> omega) _) (hb.mono (by simp <;> omega)))
    clear hb
    have cW_0 : ∀ (i : Nat), w1.cell? ⟨w.heap.size, i, none⟩ = (#[.int .i64 b.kp, .int .i64 b.ki, .int .i64 b.sh, .int .i64 b.lo, .int .i64 b.hi, .int .i64 b.rate, .int .i64 b.ga, .int .i64 b.la, .int .i64 b.de, .int .i64 m.kp, .int .i64 m.ki, .int .i64 m.sh, .int .i64 m.lo, .int .i64 m.hi, .int .i64 m.rate, .int .i64 m.ga, .int .i64 m.la, .int .i64 m.de, .int .i64 cp] : Array Value)[i]? := Blk.cell W1.out
    have cW_1 : ∀ (o0 : Obj) (i : Nat), (w1.alloc o0).cell? ⟨w.heap.size, i, none⟩ = (#[.int .i64 b.kp, .int .i64 b.ki, .int .i64 b.sh, .int .i64 b.lo, .int .i64 b.hi, .int .i64 b.rate, .int .i64 b.ga, .int .i64 b.la, .int .i64 b.de, .int .i64 m.kp, .int .i64 m.ki, .int .i64 m.sh, .int .i64 m.lo, .int .i64 m.hi, .int .i64 m.rate, .int .i64 m.ga, .int .i64 m.la, .int .i64 m.de, .int .i64 cp] : Array Value)[i]? := fun _ => Blk.cell (Blk.alloc W1.out _)
    have cT_0 : ∀ (i : Nat), w1.cell? ⟨w.heap.size + 1, i, none⟩ = (#[.int .i64 oB, .int .i64 oM, .int .i64 vB, .int .i64 vM] : Array Value)[i]? := Blk.cell T1.out
    have cT_1 : ∀ (o0 : Obj) (i : Nat), (w1.alloc o0).cell? ⟨w.heap.size + 1, i, none⟩ = (#[.int .i64 oB, .int .i64 oM, .int .i64 vB, .int .i64 vM] : Array Value)[i]? := fun _ => Blk.cell (Blk.alloc T1.out _)
    rw [HC.out]
    go_wp2
    go_ret2
    exact wr_bad R.out (by first | decide | exact RN.out) B1.out
  subst hl
  have WC := hid (chkW_ok hc)
  have H5 : Hid (¬ 512 < S.length) := hid (by rw [← N1.out]; exact h5)
  have HL : Hid (D.length = S.length) := hid (by rw [← N1.out, ← N2.out])
  clear hc
  go_enter Try.func36, Try.ntmps36
  go_wp2_with (refine wpList_load_blk (t := 29) (Blk.alloc (Blk.at_new w rfl) _) Try.underlying29 rfl (by kernel_rfl) rfl rfl rfl ?_)
  refine (rwcheck_any b m cp _).mono ?_
  rintro e w1 ⟨rfl, hb⟩
  have W1 : Hid (Blk w1 (w.heap.size) 29 #[.int .i64 b.kp, .int .i64 b.ki, .int .i64 b.sh, .int .i64 b.lo, .int .i64 b.hi, .int .i64 b.rate, .int .i64 b.ga, .int .i64 b.la, .int .i64 b.de, .int .i64 m.kp, .int .i64 m.ki, .int .i64 m.sh, .int .i64 m.lo, .int .i64 m.hi, .int .i64 m.rate, .int .i64 m.ga, .int .i64 m.la, .int .i64 m.de, .int .i64 cp]) := hid (Blk.below (Blk.alloc (Blk.at_new _ (by simp)) _) hb (by simp <;> omega))
  have T1 : Hid (Blk w1 (w.heap.size + 1) 76 #[.int .i64 oB, .int .i64 oM, .int .i64 vB, .int .i64 vM]) := hid (Blk.below (Blk.at_new _ (by simp)) hb (by simp <;> omega))
  have B1 : Hid (Below w.heap.size w w1) := hid (Below.trans (((Below.refl _ _).alloc (by simp <;> omega) _).alloc (by simp <;> omega) _) (hb.mono (by simp <;> omega)))
  clear hb
  have cW_0 : ∀ (i : Nat), w1.cell? ⟨w.heap.size, i, none⟩ = (#[.int .i64 b.kp, .int .i64 b.ki, .int .i64 b.sh, .int .i64 b.lo, .int .i64 b.hi, .int .i64 b.rate, .int .i64 b.ga, .int .i64 b.la, .int .i64 b.de, .int .i64 m.kp, .int .i64 m.ki, .int .i64 m.sh, .int .i64 m.lo, .int .i64 m.hi, .int .i64 m.rate, .int .i64 m.ga, .int .i64 m.la, .int .i64 m.de, .int .i64 cp] : Array Value)[i]? := Blk.cell W1.out
  have cW_1 : ∀ (o0 : Obj) (i : Nat), (w1.alloc o0).cell? ⟨w.heap.size, i, none⟩ = (#[.int .i64 b.kp, .int .i64 b.ki, .int .i64 b.sh, .int .i64 b.lo, .int .i64 b.hi, .int .i64 b.rate, .int .i64 b.ga, .int .i64 b.la, .int .i64 b.de, .int .i64 m.kp, .int .i64 m.ki, .int .i64 m.sh, .int .i64 m.lo, .int .i64 m.hi, .int .i64 m.rate, .int .i64 m.ga, .int .i64 m.la, .int .i64 m.de, .int .i64 cp] : Array Value)[i]? := fun _ => Blk.cell (Blk.alloc W1.out _)
  have cT_0 : ∀ (i : Nat), w1.cell? ⟨w.heap.size + 1, i, none⟩ = (#[.int .i64 oB, .int .i64 oM, .int .i64 vB, .int .i64 vM] : Array Value)[i]? := Blk.cell T1.out
  have cT_1 : ∀ (o0 : Obj) (i : Nat), (w1.alloc o0).cell? ⟨w.heap.size + 1, i, none⟩ = (#[.int .i64 oB, .int .i64 oM, .int .i64 vB, .int .i64 vM] : Array Value)[i]? := fun _ => Blk.cell (Blk.alloc T1.out _)
  rw [HC.out]
  clear cW_0 cW_1 cT_0 cT_1
  go_upto_region 8 with fail
  refine wp_region_hand (fun w' => Blk w' w.heap.size 29 #[.int .i64 b.kp, .int .i64 b.ki, .int .i64 b.sh, .int .i64 b.lo, .int .i64 b.hi, .int .i64 b.rate, .int .i64 b.ga, .int .i64 b.la, .int .i64 b.de, .int .i64 m.kp, .int .i64 m.ki, .int .i64 m.sh, .int .i64 m.lo, .int .i64 m.hi, .int .i64 m.rate, .int .i64 m.ga, .int .i64 m.la, .int .i64 m.de, .int .i64 cp] ∧ Blk w' (w.heap.size + 1) 76 #[.int .i64 oB, .int .i64 oM, .int .i64 vB, .int .i64 vM]) (by kernel_rfl) ?_
  simp only [List.length_cons, List.length_nil, Nat.zero_add, Nat.reduceAdd]
  have hS : Blk w1.drew w.heap.size 29 #[.int .i64 b.kp, .int .i64 b.ki, .int .i64 b.sh, .int .i64 b.lo, .int .i64 b.hi, .int .i64 b.rate, .int .i64 b.ga, .int .i64 b.la, .int .i64 b.de, .int .i64 m.kp, .int .i64 m.ki, .int .i64 m.sh, .int .i64 m.lo, .int .i64 m.hi, .int .i64 m.rate, .int .i64 m.ga, .int .i64 m.la, .int .i64 m.de, .int .i64 cp] ∧ Blk w1.drew (w.heap.size + 1) 76 #[.int .i64 oB, .int .i64 oM, .int .i64 vB, .int .i64 vM] := ⟨W1.out, T1.out⟩
  refine take_at (i := 0) (v := ?_) rfl rfl (by kernel_rfl) (by kernel_rfl) (by kernel_rfl) (fun _ _ _ h => h) (Or.inl ⟨by rfl, ?_⟩) hS ?_
  rotate_left
  · intro w hSw; (try dsimp only at hSw); go_simp; try with_reducible rfl
  try simp only [List.setIfInBounds_toArray, List.set_cons_zero, List.set_cons_succ]
  refine take_at (i := 1) (v := .agg #[.int .i64 b.kp, .int .i64 b.ki, .int .i64 b.sh, .int .i64 b.lo, .int .i64 b.hi, .int .i64 b.rate, .int .i64 b.ga, .int .i64 b.la, .int .i64 b.de]) rfl rfl (by kernel_rfl) (by kernel_rfl) (by kernel_rfl) (fun _ _ _ h => h) (Or.inl ⟨by rfl, fun wi hSw => exec_loads (p := .pointer (some ⟨w.heap.size, 0, none⟩)) rfl rfl (load_part hSw.1 (part_b b m cp) Try.underlying27 rfl (by kernel_rfl))⟩) hS ?_
  try simp only [List.setIfInBounds_toArray, List.set_cons_zero, List.set_cons_succ]
  refine take_at (i := 2) (v := ?_) rfl rfl (by kernel_rfl) (by kernel_rfl) (by kernel_rfl) (fun _ _ _ h => h) (Or.inl ⟨by rfl, ?_⟩) hS ?_
  rotate_left
  · intro w hSw; (try dsimp only at hSw); go_simp; try with_reducible rfl
  try simp only [List.setIfInBounds_toArray, List.set_cons_zero, List.set_cons_succ]
  refine take_at (i := 3) (v := ?_) rfl rfl (by kernel_rfl) (by kernel_rfl) (by kernel_rfl) (fun _ _ _ h => h) (Or.inl ⟨by rfl, ?_⟩) hS ?_
  rotate_left
  · intro w hSw; (try dsimp only at hSw); go_simp; try with_reducible rfl
  try simp only [List.setIfInBounds_toArray, List.set_cons_zero, List.set_cons_succ]
  refine take_at (i := 4) (v := ?_) rfl rfl (by kernel_rfl) (by kernel_rfl) (by kernel_rfl) (fun _ _ _ h => h) (Or.inl ⟨by rfl, ?_⟩) hS ?_
  rotate_left
  · intro wi hSw; have ci0 := hSw.2.cell; go_simp; try with_reducible rfl
  try simp only [List.setIfInBounds_toArray, List.set_cons_zero, List.set_cons_succ]
  refine take_at (i := 5) (v := ?_) rfl rfl (by kernel_rfl) (by kernel_rfl) (by kernel_rfl) (fun _ _ _ h => h) (Or.inl ⟨by rfl, ?_⟩) hS ?_
  rotate_left
  · intro w hSw; (try dsimp only at hSw); go_simp; try with_reducible rfl
  try simp only [List.setIfInBounds_toArray, List.set_cons_zero, List.set_cons_succ]
  refine take_at (i := 6) (v := ?_) rfl rfl (by kernel_rfl) (by kernel_rfl) (by kernel_rfl) (fun _ _ _ h => h) (Or.inl ⟨by rfl, ?_⟩) hS ?_
  rotate_left
  · intro w hSw; (try dsimp only at hSw); go_simp; try with_reducible rfl
  try simp only [List.setIfInBounds_toArray, List.set_cons_zero, List.set_cons_succ]
  refine take_at (i := 7) (v := ?_) rfl rfl (by kernel_rfl) (by kernel_rfl) (by kernel_rfl) (fun _ _ _ h => h) (Or.inl ⟨by rfl, ?_⟩) hS ?_
  rotate_left
  · intro wi hSw; have ci0 := hSw.2.cell; go_simp; try with_reducible rfl
  try simp only [List.setIfInBounds_toArray, List.set_cons_zero, List.set_cons_succ]
  refine take_at (i := 8) (v := ?_) rfl rfl (by kernel_rfl) (by kernel_rfl) (by kernel_rfl) (fun _ _ _ h => h) (Or.inl ⟨by rfl, ?_⟩) hS ?_
  rotate_left
  · intro w hSw; (try dsimp only at hSw); go_simp; try with_reducible rfl
  try simp only [List.setIfInBounds_toArray, List.set_cons_zero, List.set_cons_succ]
  refine take_at (i := 10) (v := ?_) rfl rfl (by kernel_rfl) (by kernel_rfl) (by kernel_rfl) (fun _ _ _ h => h) (Or.inl ⟨by rfl, ?_⟩) hS ?_
  rotate_left
  · intro w hSw; (try dsimp only at hSw); go_simp; try with_reducible rfl
  try simp only [List.setIfInBounds_toArray, List.set_cons_zero, List.set_cons_succ]
  refine wpAnyH_ready (rs := [9]) (by kernel_rfl) (by simp) ?_
  refine AllReadyH.cons rfl (fun K hK => ?_) AllReadyH.nil
  go_simp
  (go_at_call 54; refine (basis_n a1 c1 n2 S _ (R1.out.below (by repeat (first | with_reducible exact B1.out | with_reducible refine Below.drew ?_ | with_reducible refine Below.alloc ?_ (by first | exact Nat.le_trans B1.out.size (by simp)) _))) TT1.out N1.out hl2).mono ?_; rintro e w2 ⟨A1, q1, rfl, ho, hb⟩; have P2 := hid ho; have HB2 := hid (show Below w1.heap.size w1 w2 from by first | exact hb | exact (Below.drew (Below.refl _ _)).trans hb); have W2 := hid (Blk.below W1.out HB2.out W1.out.lt); have T2 := hid (Blk.below T1.out HB2.out T1.out.lt); have B2 := hid (B1.out.trans (HB2.out.mono B1.out.size)); clear ho hb; clear hS)
  refine hK.out _ _ ⟨W2.out, T2.out⟩ (fun hS => ?_)
  clear hK K
  try simp only [Act.put, List.setIfInBounds_toArray, List.set_cons_zero, List.set_cons_succ]
  refine wpAnyH_ready (rs := [11]) (by kernel_rfl) (by simp) ?_
  refine AllReadyH.cons rfl (fun K hK => ?_) AllReadyH.nil
  go_simp
  (go_at_call 54; refine (basis_n a2 c2 n2 D _ (R2.out.below (by repeat (first | with_reducible exact B2.out | with_reducible refine Below.drew ?_ | with_reducible refine Below.alloc ?_ (by first | exact Nat.le_trans B2.out.size (by simp)) _))) TT2.out N2.out hl2).mono ?_; rintro e w3 ⟨A3, q3, rfl, ho, hb⟩; have Q3 := hid ho; have HB3 := hid (show Below w2.heap.size w2 w3 from by first | exact hb | exact (Below.drew (Below.refl _ _)).trans hb); have W3 := hid (Blk.below W2.out HB3.out W2.out.lt); have T3 := hid (Blk.below T2.out HB3.out T2.out.lt); have B3 := hid (B2.out.trans (HB3.out.mono B2.out.size)); have P3 := hid (own_later P2.out HB3.out); clear ho hb; clear hS)
  refine hK.out _ _ ⟨W3.out, T3.out⟩ (fun hS => ?_)
  clear hK K
  try simp only [Act.put, List.setIfInBounds_toArray, List.set_cons_zero, List.set_cons_succ]
  refine wpAnyH_ready (rs := [12]) (by kernel_rfl) (by simp) ?_
  refine AllReadyH.cons rfl (fun K hK => ?_) AllReadyH.nil
  go_simp
  (go_at_call 53; refine (rcrun_bo b oB vB _ _ _ _ n2 (col 0 S) (col 0 D) _ (Rds.own P3.out (fun _ _ => id)) (Rds.own Q3.out (fun _ _ => id)) (by rw [col_len]; exact N1.out) (by rw [col_len]; exact N2.out) (by omega)).mono ?_; rintro e w4 ⟨ub, rfl, hb, hgo⟩; have GO := hid hgo; have HB4 := hid (show Below w3.heap.size w3 w4 from by first | exact hb | exact (Below.drew (Below.refl _ _)).trans hb); have W4 := hid (Blk.below W3.out HB4.out W3.out.lt); have T4 := hid (Blk.below T3.out HB4.out T3.out.lt); have B4 := hid (B3.out.trans (HB4.out.mono B3.out.size)); clear hb hgo; clear hS)
  refine hK.out _ _ ⟨W4.out, T4.out⟩ (fun hS => ?_)
  clear hK K
  try simp only [Act.put, List.setIfInBounds_toArray, List.set_cons_zero, List.set_cons_succ]
  refine take_at (i := 13) (v := ?_) rfl rfl (by kernel_rfl) (by kernel_rfl) (by kernel_rfl) (fun _ _ _ h => h) (Or.inl ⟨by rfl, ?_⟩) hS ?_
  rotate_left
  · intro w hSw; (try dsimp only at hSw); go_simp; try with_reducible rfl
  try simp only [List.setIfInBounds_toArray, List.set_cons_zero, List.set_cons_succ]
  refine take_at (i := 14) (v := ?_) rfl rfl (by kernel_rfl) (by kernel_rfl) (by kernel_rfl) (fun _ _ _ h => h) (Or.inl ⟨by rfl, ?_⟩) hS ?_
  rotate_left
  · intro w hSw; (try dsimp only at hSw); go_simp; try with_reducible rfl
  try simp only [List.setIfInBounds_toArray, List.set_cons_zero, List.set_cons_succ]
  refine take_at (i := 15) (v := ?_) rfl rfl (by kernel_rfl) (by kernel_rfl) (by kernel_rfl) (fun _ _ _ h => h) (Or.inl ⟨by rfl, ?_⟩) hS ?_
  rotate_left
  · intro w hSw; (try dsimp only at hSw); go_simp; try with_reducible rfl
  try simp only [List.setIfInBounds_toArray, List.set_cons_zero, List.set_cons_succ]
  refine take_at (i := 16) (v := ?_) rfl rfl (by kernel_rfl) (by kernel_rfl) (by kernel_rfl) (fun _ _ _ h => h) (Or.inl ⟨by rfl, ?_⟩) hS ?_
  rotate_left
  · intro w hSw; (try dsimp only at hSw); go_simp; try with_reducible rfl
  try simp only [List.setIfInBounds_toArray, List.set_cons_zero, List.set_cons_succ]
  refine take_at (i := 17) (v := ?_) rfl rfl (by kernel_rfl) (by kernel_rfl) (by kernel_rfl) (fun _ _ _ h => h) (Or.inl ⟨by rfl, ?_⟩) hS ?_
  rotate_left
  · intro w hSw; (try dsimp only at hSw); go_simp; try with_reducible rfl
  try simp only [List.setIfInBounds_toArray, List.set_cons_zero, List.set_cons_succ]
  refine wpAnyH_done (by kernel_rfl) ?_ _
  simp only [Sure, Exit.then]
  clear hS
  by_cases hbe : b.rErr oB vB (col 0 S) (col 0 D) = 0
  rotate_left
  · have R : Hid (b.rErr oB vB (col 0 S) (col 0 D) = wErr b m cp oB oM vB vM S D) := hid (wErr_b HC.out H5.out HL.out hbe)
    have RN := hid hbe
    have hz : (b.rErr oB vB (col 0 S) (col 0 D) != 0) = true := by simpa using hbe
    clear hbe
    have cW := W4.out.cell
    go_wp2
    go_ret2
    exact wr_bad R.out RN.out B4.out
  obtain ⟨AB, qb, rfl, hob⟩ := GO.out hbe
  have OB4 := hid hob
  have HBE := hid hbe
  clear hob GO
  rw [hbe]
  clear hbe
  have VL : Hid (n2 = (b.rows oB vB (col 0 S) (col 0 D)).length) := hid (by rw [CP.rows_len HBE.out, col_len]; exact N1.out)
  go_wp2_with fail
  refine (moist_n a2 c2 n2 D _ (R2.out.below B4.out) TT2.out N2.out hl2).mono ?_
  rintro e w5 ⟨A5, q5, rfl, ho, hb⟩
  have G5 := hid ho
  have OB5 := hid (own_later OB4.out hb)
  have W5 := hid (Blk.below W4.out hb W4.out.lt)
  have T5 := hid (Blk.below T4.out hb T4.out.lt)
  have B5 := hid (B4.out.trans (hb.mono B4.out.size))
  clear ho hb
  go_upto_region 12 with fail
  refine wp_region_hand (fun w' => Blk w' w.heap.size 29 #[.int .i64 b.kp, .int .i64 b.ki, .int .i64 b.sh, .int .i64 b.lo, .int .i64 b.hi, .int .i64 b.rate, .int .i64 b.ga, .int .i64 b.la, .int .i64 b.de, .int .i64 m.kp, .int .i64 m.ki, .int .i64 m.sh, .int .i64 m.lo, .int .i64 m.hi, .int .i64 m.rate, .int .i64 m.ga, .int .i64 m.la, .int .i64 m.de, .int .i64 cp] ∧ Blk w' (w.heap.size + 1) 76 #[.int .i64 oB, .int .i64 oM, .int .i64 vB, .int .i64 vM]) (by kernel_rfl) ?_
  simp only [List.length_cons, List.length_nil, Nat.zero_add, Nat.reduceAdd]
  have hS : Blk w5.drew w.heap.size 29 #[.int .i64 b.kp, .int .i64 b.ki, .int .i64 b.sh, .int .i64 b.lo, .int .i64 b.hi, .int .i64 b.rate, .int .i64 b.ga, .int .i64 b.la, .int .i64 b.de, .int .i64 m.kp, .int .i64 m.ki, .int .i64 m.sh, .int .i64 m.lo, .int .i64 m.hi, .int .i64 m.rate, .int .i64 m.ga, .int .i64 m.la, .int .i64 m.de, .int .i64 cp] ∧ Blk w5.drew (w.heap.size + 1) 76 #[.int .i64 oB, .int .i64 oM, .int .i64 vB, .int .i64 vM] := ⟨W5.out, T5.out⟩
  refine take_at (i := 0) (v := ?_) rfl rfl (by kernel_rfl) (by kernel_rfl) (by kernel_rfl) (fun _ _ _ h => h) (Or.inl ⟨by rfl, ?_⟩) hS ?_
  rotate_left
  · intro w hSw; (try dsimp only at hSw); go_simp; try with_reducible rfl
  try simp only [List.setIfInBounds_toArray, List.set_cons_zero, List.set_cons_succ]
  refine take_at (i := 1) (v := .agg #[.int .i64 m.kp, .int .i64 m.ki, .int .i64 m.sh, .int .i64 m.lo, .int .i64 m.hi, .int .i64 m.rate, .int .i64 m.ga, .int .i64 m.la, .int .i64 m.de]) rfl rfl (by kernel_rfl) (by kernel_rfl) (by kernel_rfl) (fun _ _ _ h => h) (Or.inl ⟨by rfl, fun wi hSw => exec_loads (p := .pointer (some ⟨w.heap.size, 9, none⟩)) rfl rfl (load_part hSw.1 (part_m b m cp) Try.underlying27 rfl (by kernel_rfl))⟩) hS ?_
  try simp only [List.setIfInBounds_toArray, List.set_cons_zero, List.set_cons_succ]
  refine take_at (i := 2) (v := ?_) rfl rfl (by kernel_rfl) (by kernel_rfl) (by kernel_rfl) (fun _ _ _ h => h) (Or.inl ⟨by rfl, ?_⟩) hS ?_
  rotate_left
  · intro w hSw; (try dsimp only at hSw); go_simp; try with_reducible rfl
  try simp only [List.setIfInBounds_toArray, List.set_cons_zero, List.set_cons_succ]
  refine take_at (i := 3) (v := ?_) rfl rfl (by kernel_rfl) (by kernel_rfl) (by kernel_rfl) (fun _ _ _ h => h) (Or.inl ⟨by rfl, ?_⟩) hS ?_
  rotate_left
  · intro w hSw; (try dsimp only at hSw); go_simp; try with_reducible rfl
  try simp only [List.setIfInBounds_toArray, List.set_cons_zero, List.set_cons_succ]
  refine take_at (i := 4) (v := ?_) rfl rfl (by kernel_rfl) (by kernel_rfl) (by kernel_rfl) (fun _ _ _ h => h) (Or.inl ⟨by rfl, ?_⟩) hS ?_
  rotate_left
  · intro wi hSw; have ci0 := hSw.2.cell; go_simp; try with_reducible rfl
  try simp only [List.setIfInBounds_toArray, List.set_cons_zero, List.set_cons_succ]
  refine take_at (i := 5) (v := ?_) rfl rfl (by kernel_rfl) (by kernel_rfl) (by kernel_rfl) (fun _ _ _ h => h) (Or.inl ⟨by rfl, ?_⟩) hS ?_
  rotate_left
  · intro w hSw; (try dsimp only at hSw); go_simp; try with_reducible rfl
  try simp only [List.setIfInBounds_toArray, List.set_cons_zero, List.set_cons_succ]
  refine take_at (i := 6) (v := ?_) rfl rfl (by kernel_rfl) (by kernel_rfl) (by kernel_rfl) (fun _ _ _ h => h) (Or.inl ⟨by rfl, ?_⟩) hS ?_
  rotate_left
  · intro w hSw; (try dsimp only at hSw); go_simp; try with_reducible rfl
  try simp only [List.setIfInBounds_toArray, List.set_cons_zero, List.set_cons_succ]
  refine take_at (i := 7) (v := ?_) rfl rfl (by kernel_rfl) (by kernel_rfl) (by kernel_rfl) (fun _ _ _ h => h) (Or.inl ⟨by rfl, ?_⟩) hS ?_
  rotate_left
  · intro wi hSw; have ci0 := hSw.2.cell; go_simp; try with_reducible rfl
  try simp only [List.setIfInBounds_toArray, List.set_cons_zero, List.set_cons_succ]
  refine take_at (i := 8) (v := ?_) rfl rfl (by kernel_rfl) (by kernel_rfl) (by kernel_rfl) (fun _ _ _ h => h) (Or.inl ⟨by rfl, ?_⟩) hS ?_
  rotate_left
  · intro w hSw; (try dsimp only at hSw); go_simp; try with_reducible rfl
  try simp only [List.setIfInBounds_toArray, List.set_cons_zero, List.set_cons_succ]
  refine take_at (i := 10) (v := ?_) rfl rfl (by kernel_rfl) (by kernel_rfl) (by kernel_rfl) (fun _ _ _ h => h) (Or.inl ⟨by rfl, ?_⟩) hS ?_
  rotate_left
  · intro w hSw; (try dsimp only at hSw); go_simp; try with_reducible rfl
  try simp only [List.setIfInBounds_toArray, List.set_cons_zero, List.set_cons_succ]
  refine wpAnyH_ready (rs := [9]) (by kernel_rfl) (by simp) ?_
  refine AllReadyH.cons rfl (fun K hK => ?_) AllReadyH.nil
  go_simp
  (go_at_call 55; refine (moist_n a1 c1 n2 S _ (R1.out.below (by repeat (first | with_reducible exact B5.out | with_reducible refine Below.drew ?_ | with_reducible refine Below.alloc ?_ (by first | exact Nat.le_trans B5.out.size (by simp)) _))) TT1.out N1.out hl2).mono ?_; rintro e w6 ⟨A6, q6, rfl, ho, hb⟩; have P6 := hid ho; have HB6 := hid (show Below w5.heap.size w5 w6 from by first | exact hb | exact (Below.drew (Below.refl _ _)).trans hb); have W6 := hid (Blk.below W5.out HB6.out W5.out.lt); have T6 := hid (Blk.below T5.out HB6.out T5.out.lt); have B6 := hid (B5.out.trans (HB6.out.mono B5.out.size)); have G6 := hid (own_later G5.out HB6.out); have OB6 := hid (own_later OB5.out HB6.out); clear ho hb; clear hS)
  refine hK.out _ _ ⟨W6.out, T6.out⟩ (fun hS => ?_)
  clear hK K
  try simp only [Act.put, List.setIfInBounds_toArray, List.set_cons_zero, List.set_cons_succ]
  refine wpAnyH_ready (rs := [11]) (by kernel_rfl) (by simp) ?_
  refine AllReadyH.cons rfl (fun K hK => ?_) AllReadyH.nil
  go_simp
  (go_at_call 53; refine (rcrun_bo m oM vM _ _ _ _ n2 (col 1 S) (col 1 D) _ (Rds.own P6.out (fun _ _ => id)) (Rds.own G6.out (fun _ _ => id)) (by rw [col_len]; exact N1.out) (by rw [col_len]; exact N2.out) (by omega)).mono ?_; rintro e w7 ⟨um, rfl, hb, hgo⟩; have HB7 := hid (show Below w6.heap.size w6 w7 from by first | exact hb | exact (Below.drew (Below.refl _ _)).trans hb); have W7 := hid (Blk.below W6.out HB7.out W6.out.lt); have T7 := hid (Blk.below T6.out HB7.out T6.out.lt); have B7 := hid (B6.out.trans (HB7.out.mono B6.out.size)); have G7 := hid (own_later G6.out HB7.out); have OB7 := hid (own_later OB6.out HB7.out); clear hb hgo; clear hS)
  refine hK.out _ _ ⟨W7.out, T7.out⟩ (fun hS => ?_)
  clear hK K
  try simp only [Act.put, List.setIfInBounds_toArray, List.set_cons_zero, List.set_cons_succ]
  refine take_at (i := 12) (v := ?_) rfl rfl (by kernel_rfl) (by kernel_rfl) (by kernel_rfl) (fun _ _ _ h => h) (Or.inl ⟨by rfl, ?_⟩) hS ?_
  rotate_left
  · intro w hSw; (try dsimp only at hSw); go_simp; try with_reducible rfl
  try simp only [List.setIfInBounds_toArray, List.set_cons_zero, List.set_cons_succ]
  refine take_at (i := 13) (v := ?_) rfl rfl (by kernel_rfl) (by kernel_rfl) (by kernel_rfl) (fun _ _ _ h => h) (Or.inl ⟨by rfl, ?_⟩) hS ?_
  rotate_left
  · intro w hSw; (try dsimp only at hSw); go_simp; try with_reducible rfl
  try simp only [List.setIfInBounds_toArray, List.set_cons_zero, List.set_cons_succ]
  refine take_at (i := 14) (v := ?_) rfl rfl (by kernel_rfl) (by kernel_rfl) (by kernel_rfl) (fun _ _ _ h => h) (Or.inl ⟨by rfl, ?_⟩) hS ?_
  rotate_left
  · intro w hSw; (try dsimp only at hSw); go_simp; try with_reducible rfl
  try simp only [List.setIfInBounds_toArray, List.set_cons_zero, List.set_cons_succ]
  refine take_at (i := 15) (v := ?_) rfl rfl (by kernel_rfl) (by kernel_rfl) (by kernel_rfl) (fun _ _ _ h => h) (Or.inl ⟨by rfl, ?_⟩) hS ?_
  rotate_left
  · intro w hSw; (try dsimp only at hSw); go_simp; try with_reducible rfl
  try simp only [List.setIfInBounds_toArray, List.set_cons_zero, List.set_cons_succ]
  refine take_at (i := 16) (v := ?_) rfl rfl (by kernel_rfl) (by kernel_rfl) (by kernel_rfl) (fun _ _ _ h => h) (Or.inl ⟨by rfl, ?_⟩) hS ?_
  rotate_left
  · intro w hSw; (try dsimp only at hSw); go_simp; try with_reducible rfl
  try simp only [List.setIfInBounds_toArray, List.set_cons_zero, List.set_cons_succ]
  refine wpAnyH_done (by kernel_rfl) ?_ _
  simp only [Sure, Exit.then]
  clear hS
  by_cases hme : m.rErr oM vM (col 1 S) (col 1 D) = 0
  rotate_left
  · have R : Hid (m.rErr oM vM (col 1 S) (col 1 D) = wErr b m cp oB oM vB vM S D) := hid (wErr_m HC.out H5.out HL.out HBE.out)
    have RN := hid hme
    have hz : (m.rErr oM vM (col 1 S) (col 1 D) != 0) = true := by simpa using hme
    clear hme
    go_wp2
    go_ret2
    exact wr_bad R.out RN.out B7.out
  have WE : Hid (wErr b m cp oB oM vB vM S D = 0) := hid (by rw [← wErr_m HC.out H5.out HL.out HBE.out]; exact hme)
  have HME := hid hme
  rw [hme]
  clear hme
  have ML : Hid (n2 = (mDist b cp oB vB S D).length) := hid (by rw [mDist_len WE.out]; exact N1.out)
  have VL3 : Hid (n2 = (m.rows oM vM (col 1 S) (mDist b cp oB vB S D)).length) := hid (by rw [CP.rows_len (mErr WE.out), col_len]; exact N1.out)
  go_wp2
  go_loopw [16, 17] (fun u i wr => ∃ k : Nat, k ≤ n2 ∧ i = .int .i64 k ∧ wr.ownsRow w7.heap.size 3 1 u k (ints ((mDist b cp oB vB S D).take k)) ∧ Below w7.heap.size w7 wr) (fun _ i _ => n2 - (intOf i).toNat)
  case atStart => exact ⟨0, Nat.zero_le _, rfl, own_nil _ _ _ _, Below.refl _ _⟩
  case round =>
    obtain ⟨k, hk, rfl, hown, hbel⟩ := hrel
    have OW := hid hown
    have BB := hid hbel
    clear hbel
    by_cases hlt : k < n2
    · obtain ⟨p, o, s, t, rfl, hp, he, hcell⟩ := cells_at R1.out TT1.out N1.out hlt
      obtain ⟨pb, ob, v, rfl, _, hv, hvc⟩ := val_at (Rds.own (S := Nn) OB7.out (fun _ _ => id)) (CP.three _ _ _ _ _) VL.out hlt
      obtain ⟨pd, od, d, rfl, _, hd, hdc⟩ := int_at (Rds.own (S := Nn) G7.out (fun _ _ => id)) hlt
      obtain ⟨A, cpn, rfl, _, _⟩ := own_form hown
      have vbd := CP.vb HBE.out v (List.mem_of_getElem? hv)
      have hs : (col 0 S)[k]? = some s := col_get he
      have sbd := CP.set_bd HBE.out s (List.mem_of_getElem? hs)
      have dbd := CP.dist_bd HME.out d (List.mem_of_getElem? hd)
      have cbd := coup_bd WC.out.2.2 (x := v - s) (X := 67108864) (by omega) (by omega)
      obtain ⟨_, _, cbd3, cbd4⟩ := cbd
      obtain ⟨x, hx⟩ : ∃ x, coup cp (v - s) = x := ⟨_, rfl⟩
      rw [hx] at cbd3 cbd4
      have w1a : IntKind.i64.wrap (v - s) = v - s := IntWalk.i64_in _ (by omega)
      have w1b : IntKind.i64.wrap (d + x) = d + x := IntWalk.i64_in _ (by omega)
      have MT : Hid ((mDist b cp oB vB S D).take (k + 1) = (mDist b cp oB vB S D).take k ++ [lim (d + x)]) := hid (take_more (by rw [← hx]; exact dists_get hd hv hs))
      have HX := hid hx
      have EE : Hid (∀ W : World, Below w7.heap.size w7 W → W.cell? ⟨pd, od + k, none⟩ = some (.int .i64 d) ∧ W.cell? ⟨w.heap.size, 18, none⟩ = some (.int .i64 cp) ∧ W.cell? ⟨pb, ob + k * 3 + 2, none⟩ = some (.int .i64 v) ∧ W.cell? ⟨p, o + k * 2, none⟩ = some (.int .i64 s)) := hid (fun W hW => ⟨hdc W hW, (W7.out.below hW W7.out.lt).cell 18, hvc W hW, (hcell W (B7.out.trans (hW.mono B7.out.size))).1⟩)
      clear hown hp he hcell hv hvc hd hdc hs hx
      go_upto_region 19 with fail
      have IV : Hid ((if 65536 < (if d + x < -65536 then -65536 else d + x) then 65536 else (if d + x < -65536 then -65536 else d + x)) = lim (d + x)) := hid (by unfold lim; split <;> split <;> omega)
      have HQ : Hid (lim (d + x) = lim (d + x)) := hid rfl
      refine wp_region_hand (fun w' => w'.cell? ⟨pd, od + k, none⟩ = some (.int .i64 d) ∧ w'.cell? ⟨w.heap.size, 18, none⟩ = some (.int .i64 cp) ∧ w'.cell? ⟨pb, ob + k * 3 + 2, none⟩ = some (.int .i64 v) ∧ w'.cell? ⟨p, o + k * 2, none⟩ = some (.int .i64 s)) (by kernel_rfl) ?_
      simp only [List.length_cons, List.length_nil, Nat.zero_add, Nat.reduceAdd]
      have hS : wr.drew.cell? ⟨pd, od + k, none⟩ = some (.int .i64 d) ∧ wr.drew.cell? ⟨w.heap.size, 18, none⟩ = some (.int .i64 cp) ∧ wr.drew.cell? ⟨pb, ob + k * 3 + 2, none⟩ = some (.int .i64 v) ∧ wr.drew.cell? ⟨p, o + k * 2, none⟩ = some (.int .i64 s) := EE.out _ (Below.drew BB.out)
      refine take_at (i := 0) (v := ?_) rfl rfl (by kernel_rfl) (by kernel_rfl) (by kernel_rfl) (fun _ _ _ h => h) (Or.inl ⟨by rfl, ?_⟩) hS ?_
      rotate_left
      · intro w hSw; (try dsimp only at hSw); go_simp; try with_reducible rfl
      try simp only [List.setIfInBounds_toArray, List.set_cons_zero, List.set_cons_succ]
      refine take_at (i := 1) (v := ?_) rfl rfl (by kernel_rfl) (by kernel_rfl) (by kernel_rfl) (fun _ _ _ h => h) (Or.inl ⟨by rfl, ?_⟩) hS ?_
      rotate_left
      · intro w hSw; (try dsimp only at hSw); go_simp; try with_reducible rfl
      try simp only [List.setIfInBounds_toArray, List.set_cons_zero, List.set_cons_succ]
      refine take_at (i := 2) (v := ?_) rfl rfl (by kernel_rfl) (by kernel_rfl) (by kernel_rfl) (fun _ _ _ h => h) (Or.inl ⟨by rfl, ?_⟩) hS ?_
      rotate_left
      · intro w hSw; (try dsimp only at hSw); go_simp; try with_reducible rfl
      try simp only [List.setIfInBounds_toArray, List.set_cons_zero, List.set_cons_succ]
      refine take_at (i := 3) (v := ?_) rfl rfl (by kernel_rfl) (by kernel_rfl) (by kernel_rfl) (fun _ _ _ h => h) (Or.inl ⟨by rfl, ?_⟩) hS ?_
      rotate_left
      · intro w hSw; (try dsimp only at hSw); go_simp; try with_reducible rfl
      try simp only [List.setIfInBounds_toArray, List.set_cons_zero, List.set_cons_succ]
      refine take_at (i := 4) (v := ?_) rfl rfl (by kernel_rfl) (by kernel_rfl) (by kernel_rfl) (fun _ _ _ h => h) (Or.inl ⟨by rfl, ?_⟩) hS ?_
      rotate_left
      · intro w hSw; (try dsimp only at hSw); go_simp; try with_reducible rfl
      try simp only [List.setIfInBounds_toArray, List.set_cons_zero, List.set_cons_succ]
      refine take_at (i := 5) (v := ?_) rfl rfl (by kernel_rfl) (by kernel_rfl) (by kernel_rfl) (fun _ _ _ h => h) (Or.inl ⟨by rfl, ?_⟩) hS ?_
      rotate_left
      · intro w hSw; (try dsimp only at hSw); go_simp; try with_reducible rfl
      try simp only [List.setIfInBounds_toArray, List.set_cons_zero, List.set_cons_succ]
      refine take_at (i := 6) (v := ?_) rfl rfl (by kernel_rfl) (by kernel_rfl) (by kernel_rfl) (fun _ _ _ h => h) (Or.inl ⟨by rfl, ?_⟩) hS ?_
      rotate_left
      · intro w hSw; (try dsimp only at hSw); go_simp; try with_reducible rfl
      try simp only [List.setIfInBounds_toArray, List.set_cons_zero, List.set_cons_succ]
      refine take_at (i := 7) (v := ?_) rfl rfl (by kernel_rfl) (by kernel_rfl) (by kernel_rfl) (fun _ _ _ h => h) (Or.inl ⟨by rfl, ?_⟩) hS ?_
      rotate_left
      · intro w hSw; (try dsimp only at hSw); go_simp; try with_reducible rfl
      try simp only [List.setIfInBounds_toArray, List.set_cons_zero, List.set_cons_succ]
      refine take_at (i := 8) (v := ?_) rfl rfl (by kernel_rfl) (by kernel_rfl) (by kernel_rfl) (fun _ _ _ h => h) (Or.inl ⟨by rfl, ?_⟩) hS ?_
      rotate_left
      · intro w hSw; (try dsimp only at hSw); go_simp; try with_reducible rfl
      try simp only [List.setIfInBounds_toArray, List.set_cons_zero, List.set_cons_succ]
      refine take_at (i := 9) (v := ?_) rfl rfl (by kernel_rfl) (by kernel_rfl) (by kernel_rfl) (fun _ _ _ h => h) (Or.inl ⟨by rfl, ?_⟩) hS ?_
      rotate_left
      · intro w hSw; (try dsimp only at hSw); go_simp; try with_reducible rfl
      try simp only [List.setIfInBounds_toArray, List.set_cons_zero, List.set_cons_succ]
      refine take_at (i := 10) (v := ?_) rfl rfl (by kernel_rfl) (by kernel_rfl) (by kernel_rfl) (fun _ _ _ h => h) (Or.inl ⟨by rfl, ?_⟩) hS ?_
      rotate_left
      · intro w hSw; (try dsimp only at hSw); go_simp; try with_reducible rfl
      try simp only [List.setIfInBounds_toArray, List.set_cons_zero, List.set_cons_succ]
      refine take_at (i := 11) (v := ?_) rfl rfl (by kernel_rfl) (by kernel_rfl) (by kernel_rfl) (fun _ _ _ h => h) (Or.inl ⟨by rfl, ?_⟩) hS ?_
      rotate_left
      · intro w hSw; (try dsimp only at hSw); go_simp; try with_reducible rfl
      try simp only [List.setIfInBounds_toArray, List.set_cons_zero, List.set_cons_succ]
      refine take_at (i := 12) (v := ?_) rfl rfl (by kernel_rfl) (by kernel_rfl) (by kernel_rfl) (fun _ _ _ h => h) (Or.inl ⟨by rfl, ?_⟩) hS ?_
      rotate_left
      · intro w hSw; (try dsimp only at hSw); go_simp; try with_reducible rfl
      try simp only [List.setIfInBounds_toArray, List.set_cons_zero, List.set_cons_succ]
      refine take_at (i := 13) (v := ?_) rfl rfl (by kernel_rfl) (by kernel_rfl) (by kernel_rfl) (fun _ _ _ h => h) (Or.inl ⟨by rfl, ?_⟩) hS ?_
      rotate_left
      · intro w hSw; (try dsimp only at hSw); go_simp; try with_reducible rfl
      try simp only [List.setIfInBounds_toArray, List.set_cons_zero, List.set_cons_succ]
      refine take_at (i := 14) (v := ?_) rfl rfl (by kernel_rfl) (by kernel_rfl) (by kernel_rfl) (fun _ _ _ h => h) (Or.inl ⟨by rfl, ?_⟩) hS ?_
      rotate_left
      · intro w hSw; (try dsimp only at hSw); go_simp; try with_reducible rfl
      try simp only [List.setIfInBounds_toArray, List.set_cons_zero, List.set_cons_succ]
      refine take_at (i := 15) (v := ?_) rfl rfl (by kernel_rfl) (by kernel_rfl) (by kernel_rfl) (fun _ _ _ h => h) (Or.inl ⟨by rfl, ?_⟩) hS ?_
      rotate_left
      · intro w hSw; (try dsimp only at hSw); go_simp; try with_reducible rfl
      try simp only [List.setIfInBounds_toArray, List.set_cons_zero, List.set_cons_succ]
      refine take_at (i := 16) (v := ?_) rfl rfl (by kernel_rfl) (by kernel_rfl) (by kernel_rfl) (fun _ _ _ h => h) (Or.inl ⟨by rfl, ?_⟩) hS ?_
      rotate_left
      · intro w hSw; (try dsimp only at hSw); go_simp; try with_reducible rfl
      try simp only [List.setIfInBounds_toArray, List.set_cons_zero, List.set_cons_succ]
      refine take_at (i := 17) (v := ?_) rfl rfl (by kernel_rfl) (by kernel_rfl) (by kernel_rfl) (fun _ _ _ h => h) (Or.inl ⟨by rfl, ?_⟩) hS ?_
      rotate_left
      · intro w hSw; (try dsimp only at hSw); go_simp; try with_reducible rfl
      try simp only [List.setIfInBounds_toArray, List.set_cons_zero, List.set_cons_succ]
      refine wpAnyH_ready (rs := [18]) (by kernel_rfl) (by simp) ?_
      refine AllReadyH.cons rfl (fun K hK => ?_) AllReadyH.nil
      go_simp
      (go_at_call 56; refine (rcoup_any cp (v - s) _ WC.out.2.2 (by omega)).mono ?_; rintro e v9 ⟨rfl, rfl⟩; rw [HX.out])
      refine hK.out _ _ hS (fun hS => ?_)
      clear hK K
      try simp only [Act.put, List.setIfInBounds_toArray, List.set_cons_zero, List.set_cons_succ]
      refine take_at (i := 19) (v := ?_) rfl rfl (by kernel_rfl) (by kernel_rfl) (by kernel_rfl) (fun _ _ _ h => h) (Or.inl ⟨by rfl, ?_⟩) hS ?_
      rotate_left
      · intro w hSw; (try dsimp only at hSw); go_simp; try with_reducible rfl
      try simp only [List.setIfInBounds_toArray, List.set_cons_zero, List.set_cons_succ]
      refine take_at (i := 20) (v := ?_) rfl rfl (by kernel_rfl) (by kernel_rfl) (by kernel_rfl) (fun _ _ _ h => h) (Or.inl ⟨by rfl, ?_⟩) hS ?_
      rotate_left
      · intro w hSw; (try dsimp only at hSw); go_simp; try with_reducible rfl
      try simp only [List.setIfInBounds_toArray, List.set_cons_zero, List.set_cons_succ]
      refine take_at (i := 21) (v := .int .i64 (lim (d + x))) rfl rfl (by kernel_rfl) (by kernel_rfl) (by kernel_rfl) (fun _ _ _ h => h) (Or.inl ⟨by rfl, ?_⟩) hS ?_
      · intro wi hSw; go_simp; exact IV.out
      try simp only [List.setIfInBounds_toArray, List.set_cons_zero, List.set_cons_succ]
      refine wpAnyH_ready (rs := [22]) (by kernel_rfl) (by simp) ?_
      refine AllReadyH.cons rfl (fun K hK => ?_) AllReadyH.nil
      go_simp
      refine hK.out _ _ (EE.out _ (by repeat (first | with_reducible exact BB.out | with_reducible refine Below.drew ?_ | with_reducible refine Below.alloc ?_ (by first | exact Nat.le_trans BB.out.size (by simp)) _))) (fun hS => ?_)
      clear hK K
      try simp only [Act.put, List.setIfInBounds_toArray, List.set_cons_zero, List.set_cons_succ]
      refine wpAnyH_ready (rs := [23]) (by kernel_rfl) (by simp) ?_
      refine AllReadyH.cons rfl (fun K hK => ?_) AllReadyH.nil
      (refine step_app (n := k) (v := .slice A k cpn) (xs := ints ((mDist b cp oB vB S D).take k)) (m := 1) (S := Nn) (news := [.int .i64 (lim (d + x))]) (s := .tmp 80) (x := .tmp 102) info3 Try.underlying30 (by kernel_rfl) (by omega) (by omega) (own_keep (own_base_le OW.out (Nat.zero_le _)) (by repeat (first | with_reducible exact Chg.refl _ _ | with_reducible refine Chg.drew ?_ | with_reducible refine Chg.alloc ?_ _)) (fun _ _ => id)) (by repeat (first | with_reducible exact Rds.oneAt _ _ _ _ (by simp) | with_reducible refine Rds.drewK ?_ | with_reducible refine Rds.allocK ?_)) (by intro u hu; simp at hu; subst hu; rfl) (by omega) rfl rfl rfl rfl ?_; intro y6 w6 hown hchg hnew)
      have PB : Hid (Below w7.heap.size w7 w6) := hid (Below.trans (by repeat (first | with_reducible exact BB.out | with_reducible refine Below.drew ?_ | with_reducible refine Below.alloc ?_ (by first | exact Nat.le_trans BB.out.size (by simp)) _)) (hchg.below (Nat.le_trans BB.out.size (by simp)) (fun j hj hf => by have := (own_blk OW.out j hf).1; omega)))
      have PO : Hid (w6.ownsRow w7.heap.size 3 1 y6 (k + 1) (ints ((mDist b cp oB vB S D).take (k + 1)))) := hid (by rw [MT.out, ints_append]; exact own_rebase hown (fun g hg => (hnew g hg).elim (fun e => (own_blk OW.out g e).1) (fun e => by have := BB.out.size; simp at e; omega)))
      clear hown hchg hnew
      refine hK.out _ _ (EE.out _ PB.out) (fun hS => ?_)
      clear hK K
      try simp only [Act.put, List.setIfInBounds_toArray, List.set_cons_zero, List.set_cons_succ]
      refine take_at (i := 24) (v := ?_) rfl rfl (by kernel_rfl) (by kernel_rfl) (by kernel_rfl) (fun _ _ _ h => h) (Or.inl ⟨by rfl, ?_⟩) hS ?_
      rotate_left
      · intro w hSw; (try dsimp only at hSw); go_simp; try with_reducible rfl
      try simp only [List.setIfInBounds_toArray, List.set_cons_zero, List.set_cons_succ]
      refine wpAnyH_done (by kernel_rfl) ?_ _
      simp only [Sure, Exit.then]
      clear hS
      go_wp2_with fail
      go_roundw
      case rel => exact ⟨k + 1, by omega, by go_num, PO.out, PB.out⟩
      case measure => simp [intOf]; omega
    · obtain rfl : k = n2 := by omega
      obtain ⟨wq, rfl⟩ : ∃ wq, wq = wr := ⟨_, rfl⟩
      have OF : Hid (wq.ownsRow w7.heap.size 3 1 u16 k (ints (mDist b cp oB vB S D))) := hid (by
        have := OW.out
        rw [List.take_of_length_le (by rw [← ML.out]; exact Nat.le_refl _)] at this
        exact this)
      obtain ⟨A8, q8, rfl, _, _⟩ := own_form hown
      have W8 := hid (Blk.below W7.out BB.out W7.out.lt)
      have T8 := hid (Blk.below T7.out BB.out T7.out.lt)
      have B8 := hid (B7.out.trans (BB.out.mono B7.out.size))
      have OB8 := hid (own_later OB7.out BB.out)
      clear hown
      go_upto_region 20 with fail
      refine wp_region_hand (fun w' => Blk w' w.heap.size 29 #[.int .i64 b.kp, .int .i64 b.ki, .int .i64 b.sh, .int .i64 b.lo, .int .i64 b.hi, .int .i64 b.rate, .int .i64 b.ga, .int .i64 b.la, .int .i64 b.de, .int .i64 m.kp, .int .i64 m.ki, .int .i64 m.sh, .int .i64 m.lo, .int .i64 m.hi, .int .i64 m.rate, .int .i64 m.ga, .int .i64 m.la, .int .i64 m.de, .int .i64 cp] ∧ Blk w' (w.heap.size + 1) 76 #[.int .i64 oB, .int .i64 oM, .int .i64 vB, .int .i64 vM]) (by kernel_rfl) ?_
      simp only [List.length_cons, List.length_nil, Nat.zero_add, Nat.reduceAdd]
      have hS : Blk wq.drew w.heap.size 29 #[.int .i64 b.kp, .int .i64 b.ki, .int .i64 b.sh, .int .i64 b.lo, .int .i64 b.hi, .int .i64 b.rate, .int .i64 b.ga, .int .i64 b.la, .int .i64 b.de, .int .i64 m.kp, .int .i64 m.ki, .int .i64 m.sh, .int .i64 m.lo, .int .i64 m.hi, .int .i64 m.rate, .int .i64 m.ga, .int .i64 m.la, .int .i64 m.de, .int .i64 cp] ∧ Blk wq.drew (w.heap.size + 1) 76 #[.int .i64 oB, .int .i64 oM, .int .i64 vB, .int .i64 vM] := ⟨W8.out, T8.out⟩
      refine take_at (i := 0) (v := ?_) rfl rfl (by kernel_rfl) (by kernel_rfl) (by kernel_rfl) (fun _ _ _ h => h) (Or.inl ⟨by rfl, ?_⟩) hS ?_
      rotate_left
      · intro w hSw; (try dsimp only at hSw); go_simp; try with_reducible rfl
      try simp only [List.setIfInBounds_toArray, List.set_cons_zero, List.set_cons_succ]
      refine take_at (i := 1) (v := .agg #[.int .i64 m.kp, .int .i64 m.ki, .int .i64 m.sh, .int .i64 m.lo, .int .i64 m.hi, .int .i64 m.rate, .int .i64 m.ga, .int .i64 m.la, .int .i64 m.de]) rfl rfl (by kernel_rfl) (by kernel_rfl) (by kernel_rfl) (fun _ _ _ h => h) (Or.inl ⟨by rfl, fun wi hSw => exec_loads (p := .pointer (some ⟨w.heap.size, 9, none⟩)) rfl rfl (load_part hSw.1 (part_m b m cp) Try.underlying27 rfl (by kernel_rfl))⟩) hS ?_
      try simp only [List.setIfInBounds_toArray, List.set_cons_zero, List.set_cons_succ]
      refine take_at (i := 2) (v := ?_) rfl rfl (by kernel_rfl) (by kernel_rfl) (by kernel_rfl) (fun _ _ _ h => h) (Or.inl ⟨by rfl, ?_⟩) hS ?_
      rotate_left
      · intro w hSw; (try dsimp only at hSw); go_simp; try with_reducible rfl
      try simp only [List.setIfInBounds_toArray, List.set_cons_zero, List.set_cons_succ]
      refine take_at (i := 3) (v := ?_) rfl rfl (by kernel_rfl) (by kernel_rfl) (by kernel_rfl) (fun _ _ _ h => h) (Or.inl ⟨by rfl, ?_⟩) hS ?_
      rotate_left
      · intro w hSw; (try dsimp only at hSw); go_simp; try with_reducible rfl
      try simp only [List.setIfInBounds_toArray, List.set_cons_zero, List.set_cons_succ]
      refine take_at (i := 4) (v := ?_) rfl rfl (by kernel_rfl) (by kernel_rfl) (by kernel_rfl) (fun _ _ _ h => h) (Or.inl ⟨by rfl, ?_⟩) hS ?_
      rotate_left
      · intro wi hSw; have ci0 := hSw.2.cell; go_simp; try with_reducible rfl
      try simp only [List.setIfInBounds_toArray, List.set_cons_zero, List.set_cons_succ]
      refine take_at (i := 5) (v := ?_) rfl rfl (by kernel_rfl) (by kernel_rfl) (by kernel_rfl) (fun _ _ _ h => h) (Or.inl ⟨by rfl, ?_⟩) hS ?_
      rotate_left
      · intro w hSw; (try dsimp only at hSw); go_simp; try with_reducible rfl
      try simp only [List.setIfInBounds_toArray, List.set_cons_zero, List.set_cons_succ]
      refine take_at (i := 6) (v := ?_) rfl rfl (by kernel_rfl) (by kernel_rfl) (by kernel_rfl) (fun _ _ _ h => h) (Or.inl ⟨by rfl, ?_⟩) hS ?_
      rotate_left
      · intro w hSw; (try dsimp only at hSw); go_simp; try with_reducible rfl
      try simp only [List.setIfInBounds_toArray, List.set_cons_zero, List.set_cons_succ]
      refine take_at (i := 7) (v := ?_) rfl rfl (by kernel_rfl) (by kernel_rfl) (by kernel_rfl) (fun _ _ _ h => h) (Or.inl ⟨by rfl, ?_⟩) hS ?_
      rotate_left
      · intro wi hSw; have ci0 := hSw.2.cell; go_simp; try with_reducible rfl
      try simp only [List.setIfInBounds_toArray, List.set_cons_zero, List.set_cons_succ]
      refine take_at (i := 8) (v := ?_) rfl rfl (by kernel_rfl) (by kernel_rfl) (by kernel_rfl) (fun _ _ _ h => h) (Or.inl ⟨by rfl, ?_⟩) hS ?_
      rotate_left
      · intro w hSw; (try dsimp only at hSw); go_simp; try with_reducible rfl
      try simp only [List.setIfInBounds_toArray, List.set_cons_zero, List.set_cons_succ]
      refine take_at (i := 10) (v := ?_) rfl rfl (by kernel_rfl) (by kernel_rfl) (by kernel_rfl) (fun _ _ _ h => h) (Or.inl ⟨by rfl, ?_⟩) hS ?_
      rotate_left
      · intro w hSw; (try dsimp only at hSw); go_simp; try with_reducible rfl
      try simp only [List.setIfInBounds_toArray, List.set_cons_zero, List.set_cons_succ]
      refine wpAnyH_ready (rs := [9]) (by kernel_rfl) (by simp) ?_
      refine AllReadyH.cons rfl (fun K hK => ?_) AllReadyH.nil
      go_simp
      (go_at_call 55; refine (moist_n a1 c1 k S _ (R1.out.below (by repeat (first | with_reducible exact B8.out | with_reducible refine Below.drew ?_ | with_reducible refine Below.alloc ?_ (by first | exact Nat.le_trans B8.out.size (by simp)) _))) TT1.out N1.out (by omega)).mono ?_; rintro e w9 ⟨A9, q9, rfl, ho, hb⟩; have P9 := hid ho; have HB9 := hid (show Below wq.heap.size wq w9 from by first | exact hb | exact (Below.drew (Below.refl _ _)).trans hb); have W9 := hid (Blk.below W8.out HB9.out W8.out.lt); have T9 := hid (Blk.below T8.out HB9.out T8.out.lt); have B9 := hid (B8.out.trans (HB9.out.mono B8.out.size)); have OB9 := hid (own_later OB8.out HB9.out); have OF9 := hid (own_later OF.out HB9.out); clear ho hb; clear hS)
      refine hK.out _ _ ⟨W9.out, T9.out⟩ (fun hS => ?_)
      clear hK K
      try simp only [Act.put, List.setIfInBounds_toArray, List.set_cons_zero, List.set_cons_succ]
      refine wpAnyH_ready (rs := [11]) (by kernel_rfl) (by simp) ?_
      refine AllReadyH.cons rfl (fun K hK => ?_) AllReadyH.nil
      go_simp
      (go_at_call 53; refine (rcrun_ok m oM vM _ _ _ _ k (col 1 S) (mDist b cp oB vB S D) _ (Rds.own P9.out (fun _ _ => id)) (Rds.own OF9.out (fun _ _ => id)) (by rw [col_len]; exact N1.out) ML.out (by omega) (mErr WE.out)).mono ?_; rintro e w10 ⟨AM, qm, rfl, hom, hb⟩; have HB10 := hid (show Below w9.heap.size w9 w10 from by first | exact hb | exact (Below.drew (Below.refl _ _)).trans hb); have W10 := hid (Blk.below W9.out HB10.out W9.out.lt); have T10 := hid (Blk.below T9.out HB10.out T9.out.lt); have B10 := hid (B9.out.trans (HB10.out.mono B9.out.size)); have OB10 := hid (own_later OB9.out HB10.out); have OM := hid (Rds.own (S := Nn) hom (fun _ _ => id)); have OB := hid (Rds.own (S := Nn) OB10.out (fun _ _ => id)); clear hb hom; clear hS)
      refine hK.out _ _ ⟨W10.out, T10.out⟩ (fun hS => ?_)
      clear hK K
      try simp only [Act.put, List.setIfInBounds_toArray, List.set_cons_zero, List.set_cons_succ]
      refine take_at (i := 12) (v := ?_) rfl rfl (by kernel_rfl) (by kernel_rfl) (by kernel_rfl) (fun _ _ _ h => h) (Or.inl ⟨by rfl, ?_⟩) hS ?_
      rotate_left
      · intro w hSw; (try dsimp only at hSw); go_simp; try with_reducible rfl
      try simp only [List.setIfInBounds_toArray, List.set_cons_zero, List.set_cons_succ]
      refine take_at (i := 13) (v := ?_) rfl rfl (by kernel_rfl) (by kernel_rfl) (by kernel_rfl) (fun _ _ _ h => h) (Or.inl ⟨by rfl, ?_⟩) hS ?_
      rotate_left
      · intro w hSw; (try dsimp only at hSw); go_simp; try with_reducible rfl
      try simp only [List.setIfInBounds_toArray, List.set_cons_zero, List.set_cons_succ]
      refine take_at (i := 14) (v := ?_) rfl rfl (by kernel_rfl) (by kernel_rfl) (by kernel_rfl) (fun _ _ _ h => h) (Or.inl ⟨by rfl, ?_⟩) hS ?_
      rotate_left
      · intro w hSw; (try dsimp only at hSw); go_simp; try with_reducible rfl
      try simp only [List.setIfInBounds_toArray, List.set_cons_zero, List.set_cons_succ]
      refine take_at (i := 15) (v := ?_) rfl rfl (by kernel_rfl) (by kernel_rfl) (by kernel_rfl) (fun _ _ _ h => h) (Or.inl ⟨by rfl, ?_⟩) hS ?_
      rotate_left
      · intro w hSw; (try dsimp only at hSw); go_simp; try with_reducible rfl
      try simp only [List.setIfInBounds_toArray, List.set_cons_zero, List.set_cons_succ]
      refine take_at (i := 16) (v := ?_) rfl rfl (by kernel_rfl) (by kernel_rfl) (by kernel_rfl) (fun _ _ _ h => h) (Or.inl ⟨by rfl, ?_⟩) hS ?_
      rotate_left
      · intro w hSw; (try dsimp only at hSw); go_simp; try with_reducible rfl
      try simp only [List.setIfInBounds_toArray, List.set_cons_zero, List.set_cons_succ]
      refine wpAnyH_done (by kernel_rfl) ?_ _
      simp only [Sure, Exit.then]
      clear hS
      go_wp2
      go_loopw [20, 21] (fun u i wy => ∃ k3 : Nat, k3 ≤ k ∧ i = .int .i64 k3 ∧ wy.ownsRow w10.heap.size 60 2 u k3 (ints ((pairs (bVals b oB vB S D) (mVals b m cp oB oM vB vM S D)).take k3).flatten) ∧ Below w10.heap.size w10 wy) (fun _ i _ => k - (intOf i).toNat)
      case atStart => exact ⟨0, Nat.zero_le _, rfl, own_nil _ _ _ _, Below.refl _ _⟩
      case round =>
        obtain ⟨k3, hk3, rfl, hown, hbel⟩ := hrel
        have OW3 := hid hown
        have BB3 := hid hbel
        clear hbel
        by_cases hlt3 : k3 < k
        · obtain ⟨pb, ob, v, rfl, _, hv, hvc⟩ := val_at OB.out (CP.three _ _ _ _ _) VL.out hlt3
          obtain ⟨pm, om, x, rfl, _, hx, hxc⟩ := val_at OM.out (CP.three _ _ _ _ _) VL3.out hlt3
          obtain ⟨A, cp3, rfl, _, _⟩ := own_form hown
          have EE : Hid (∀ W : World, Below w10.heap.size w10 W → W.cell? ⟨pb, ob + k3 * 3 + 2, none⟩ = some (.int .i64 v) ∧ W.cell? ⟨pm, om + k3 * 3 + 2, none⟩ = some (.int .i64 x)) := hid (fun W hW => ⟨hvc W hW, hxc W hW⟩)
          have PX : Hid ((pairs (bVals b oB vB S D) (mVals b m cp oB oM vB vM S D)).take (k3 + 1) = (pairs (bVals b oB vB S D) (mVals b m cp oB oM vB vM S D)).take k3 ++ [[v, x]]) := hid (take_more (pairs_get hv hx))
          clear hown hv hx hvc hxc
          go_upto_region 25 with fail
          go_region_held3 (fun w' => w'.cell? ⟨pb, ob + k3 * 3 + 2, none⟩ = some (.int .i64 v) ∧ w'.cell? ⟨pm, om + k3 * 3 + 2, none⟩ = some (.int .i64 x)) (exact EE.out _ (by repeat (first | with_reducible exact BB3.out | with_reducible exact PB.out | with_reducible refine Below.drew ?_ | with_reducible refine Below.alloc ?_ (by first | exact Nat.le_trans BB3.out.size (by simp)) _))) (first
            | (refine step_app (n := k3) (v := .slice A k3 cp3) (xs := ints ((pairs (bVals b oB vB S D) (mVals b m cp oB oM vB vM S D)).take k3).flatten) (m := 1) (S := Nn) (news := [.int .i64 v, .int .i64 x]) (s := .tmp 125) (x := .tmp 137) infoR Try.underlying39 (by kernel_rfl) (by omega) (by omega) (own_keep (own_base_le OW3.out (Nat.zero_le _)) (by repeat (first | with_reducible exact Chg.refl _ _ | with_reducible refine Chg.drew ?_ | with_reducible refine Chg.alloc ?_ _)) (fun _ _ => id)) (by repeat (first | with_reducible exact Rds.pairAt _ _ _ _ _ (by simp) | with_reducible refine Rds.drewK ?_ | with_reducible refine Rds.allocK ?_)) (by intro u hu; simp at hu; rcases hu with rfl | rfl <;> rfl) (by omega) rfl rfl rfl rfl ?_; intro y6 w6 hown hchg hnew; have PB : Hid (Below w10.heap.size w10 w6) := hid (Below.trans (by repeat (first | with_reducible exact BB3.out | with_reducible refine Below.drew ?_ | with_reducible refine Below.alloc ?_ (by first | exact Nat.le_trans BB3.out.size (by simp)) _)) (hchg.below (by first | exact Nat.le_trans BB3.out.size (by simp)) (fun j hj hf => by have := (own_blk OW3.out j hf).1; omega))); have PO : Hid (w6.ownsRow w10.heap.size 60 2 y6 (k3 + 1) (ints ((pairs (bVals b oB vB S D) (mVals b m cp oB oM vB vM S D)).take (k3 + 1)).flatten)) := hid (by rw [PX.out, List.flatten_append, ints_append]; exact own_rebase hown (fun g hg => (hnew g hg).elim (fun e => (own_blk OW3.out g e).1) (fun e => by have := BB3.out.size; simp at e; omega))); have s6 := EE.out _ PB.out; clear hown hchg hnew))
          go_wp2_with fail
          go_roundw
          case rel => exact ⟨k3 + 1, by omega, by go_num, PO.out, PB.out⟩
          case measure => simp [intOf]; omega
        · obtain rfl : k3 = k := by omega
          have hown := OW3.out
          rw [List.take_of_length_le (by rw [pairs_len (by rw [mVals_len WE.out, bVals_len WE.out]), bVals_len WE.out, ← N1.out]; exact Nat.le_refl _)] at hown
          have OF := hid hown
          clear hown
          go_wp2
          go_ret2
          exact wr_good WE.out N1.out (own_base_le OF.out B10.out.size) (B10.out.trans (BB3.out.mono B10.out.size))
end Go.Proofs.Ytddphdkhaaolmaa
