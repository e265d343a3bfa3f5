/- Chapter 28: Check; the columns of a list of readings. -/
import Derived.Test.YtddphdkhaaolmaaCWeb1
namespace Go.Proofs.Ytddphdkhaaolmaa
open Go.RowKit

set_option maxRecDepth 100000 in
set_option maxHeartbeats 4000000 in
theorem wcheck_any (b m : CP) (cp : Int) (w : World) : Calls Try.prog 23 #[.agg #[.int .i64 b.kp, .int .i64 b.ki, .int .i64 b.sh, .int .i64 b.lo, .int .i64 b.hi, .int .i64 b.rate, .int .i64 b.ga, .int .i64 b.la, .int .i64 b.de, .int .i64 m.kp, .int .i64 m.ki, .int .i64 m.sh, .int .i64 m.lo, .int .i64 m.hi, .int .i64 m.rate, .int .i64 m.ga, .int .i64 m.la, .int .i64 m.de, .int .i64 cp]] w fun e w' => e = .returned (.int .i64 (chkW b m cp)) ∧ Below w.heap.size w w' := by
  go_enter Try.func23, Try.ntmps23
  go_wp2
  go_loopw [12] (fun i wr => ∃ k : Nat, k ≤ 2 ∧ i = .int .i64 k ∧ (1 ≤ k → b.err = 0) ∧ (2 ≤ k → m.err = 0) ∧ Blk wr w.heap.size 29 #[.int .i64 b.kp, .int .i64 b.ki, .int .i64 b.sh, .int .i64 b.lo, .int .i64 b.hi, .int .i64 b.rate, .int .i64 b.ga, .int .i64 b.la, .int .i64 b.de, .int .i64 m.kp, .int .i64 m.ki, .int .i64 m.sh, .int .i64 m.lo, .int .i64 m.hi, .int .i64 m.rate, .int .i64 m.ga, .int .i64 m.la, .int .i64 m.de, .int .i64 cp] ∧ Blk wr (w.heap.size + 1) 27 #[.int .i64 b.kp, .int .i64 b.ki, .int .i64 b.sh, .int .i64 b.lo, .int .i64 b.hi, .int .i64 b.rate, .int .i64 b.ga, .int .i64 b.la, .int .i64 b.de, .int .i64 m.kp, .int .i64 m.ki, .int .i64 m.sh, .int .i64 m.lo, .int .i64 m.hi, .int .i64 m.rate, .int .i64 m.ga, .int .i64 m.la, .int .i64 m.de] ∧ Below w.heap.size w wr) (fun i _ => 2 - (intOf i).toNat)
  case atStart => exact ⟨0, by omega, rfl, by omega, by omega, Blk.alloc (Blk.at_new _ rfl) _, Blk.at_new _ (by simp), (((Below.refl _ _).alloc (Nat.le_refl _) _).alloc (by simp) _)⟩
  case round =>
    obtain ⟨k, hk, rfl, hl, hh, hW, hA, hbel⟩ := hrel
    have WW := hid hW
    have AA := hid hA
    have BB := hid hbel
    have HL := hid hl
    have HH := hid hh
    have cW := hW.cell
    have cA := hA.cell
    clear hW hA hbel hl hh
    rcases Nat.lt_or_ge k 1 with h0 | h0
    · obtain rfl : k = 0 := by omega
      go_wp2_with fail
      refine (cchk b _).mono ?_
      rintro e w5 ⟨rfl, hb⟩
      have W5 := hid (Blk.below (Blk.alloc WW.out _) hb (Blk.lt (Blk.alloc WW.out _)))
      have A5 := hid (Blk.below (Blk.alloc AA.out _) hb (Blk.lt (Blk.alloc AA.out _)))
      have B5 := hid ((Below.alloc BB.out BB.out.size _).trans (hb.mono (Nat.le_trans BB.out.size (by simp))))
      clear hb cW cA
      by_cases hz : b.err = 0
      · have HZ := hid hz
        rw [hz]
        clear hz
        go_wp2
        go_roundw
        case rel => exact ⟨1, by omega, by go_num, fun _ => HZ.out, by omega, W5.out, A5.out, B5.out⟩
        case measure => simp [intOf]
      · have R : Hid (b.err = chkW b m cp) := hid (by simp [chkW, hz])
        have hz2 : (b.err != 0) = true := by simpa using hz
        clear hz
        go_wp2
        go_ret
        exact ⟨ret_i R.out, B5.out⟩
    · rcases Nat.lt_or_ge k 2 with h1 | h1
      · obtain rfl : k = 1 := by omega
        go_wp2_with fail
        refine (cchk m _).mono ?_
        rintro e w5 ⟨rfl, hb⟩
        have W5 := hid (Blk.below (Blk.alloc WW.out _) hb (Blk.lt (Blk.alloc WW.out _)))
        have A5 := hid (Blk.below (Blk.alloc AA.out _) hb (Blk.lt (Blk.alloc AA.out _)))
        have B5 := hid ((Below.alloc BB.out BB.out.size _).trans (hb.mono (Nat.le_trans BB.out.size (by simp))))
        clear hb cW cA
        by_cases hz : m.err = 0
        · have HZ := hid hz
          rw [hz]
          clear hz
          go_wp2
          go_roundw
          case rel => exact ⟨2, by omega, by go_num, fun _ => HL.out (by omega), fun _ => HZ.out, W5.out, A5.out, B5.out⟩
          case measure => simp [intOf]
        · have R : Hid (m.err = chkW b m cp) := hid (by simp [chkW, HL.out (by omega), hz])
          have hz2 : (m.err != 0) = true := by simpa using hz
          clear hz
          go_wp2
          go_ret
          exact ⟨ret_i R.out, B5.out⟩
      · obtain rfl : k = 2 := by omega
        have R0 : Hid ((if -256 ≤ cp ∧ cp ≤ 256 then 0 else 1) = chkW b m cp) := hid (by simp [chkW, HL.out, HH.out])
        by_cases hcp : -256 ≤ cp ∧ cp ≤ 256
        · have R : Hid (0 = chkW b m cp) := hid (by rw [← R0.out, if_pos hcp])
          obtain ⟨hc1, hc2⟩ := hcp
          go_wp2
          go_ret
          exact ⟨ret_i R.out, BB.out⟩
        · have R : Hid (1 = chkW b m cp) := hid (by rw [← R0.out, if_neg hcp])
          rcases (show cp < -256 ∨ 256 < cp by omega) with hc1 | hc1
          all_goals
            clear hcp
            go_wp2
            go_ret
            exact ⟨ret_i R.out, BB.out⟩
set_option maxRecDepth 100000 in
set_option maxHeartbeats 4000000 in
theorem rwcheck_any (b m : CP) (cp : Int) (w : World) : Calls Try.prog 33 #[.agg #[.int .i64 b.kp, .int .i64 b.ki, .int .i64 b.sh, .int .i64 b.lo, .int .i64 b.hi, .int .i64 b.rate, .int .i64 b.ga, .int .i64 b.la, .int .i64 b.de, .int .i64 m.kp, .int .i64 m.ki, .int .i64 m.sh, .int .i64 m.lo, .int .i64 m.hi, .int .i64 m.rate, .int .i64 m.ga, .int .i64 m.la, .int .i64 m.de, .int .i64 cp]] w fun e w' => e = .returned (.int .i64 (chkW b m cp)) ∧ Below w.heap.size w w' := by
  by_cases hb1 : b.err = 0
  · have HB1 := hid hb1
    by_cases hm1 : m.err = 0
    · have HM1 := hid hm1
      have R0 : Hid ((if -256 ≤ cp ∧ cp ≤ 256 then 0 else 1) = chkW b m cp) := hid (by simp [chkW, hb1, hm1])
      clear hb1 hm1
      go_enter Try.func33, Try.ntmps33
      go_wp2_with fail
      refine (rcchk b _).mono ?_
      rintro e w1 ⟨rfl, hb⟩
      have W1 : Hid (Blk w1 (w.heap.size) 29 #[.int .i64 b.kp, .int .i64 b.ki, .int .i64 b.sh, .int .i64 b.lo, .int .i64 b.hi, .int .i64 b.rate, .int .i64 b.ga, .int .i64 b.la, .int .i64 b.de, .int .i64 m.kp, .int .i64 m.ki, .int .i64 m.sh, .int .i64 m.lo, .int .i64 m.hi, .int .i64 m.rate, .int .i64 m.ga, .int .i64 m.la, .int .i64 m.de, .int .i64 cp]) := hid (Blk.below (Blk.at_new _ (by simp)) hb (by simp <;> omega))
      have B1 : Hid (Below w.heap.size w w1) := hid (Below.trans ((Below.refl _ _).alloc (by simp <;> omega) _) (hb.mono (by simp <;> omega)))
      clear hb
      have cW_0 : ∀ (i : Nat), w1.cell? ⟨w.heap.size, i, none⟩ = (#[.int .i64 b.kp, .int .i64 b.ki, .int .i64 b.sh, .int .i64 b.lo, .int .i64 b.hi, .int .i64 b.rate, .int .i64 b.ga, .int .i64 b.la, .int .i64 b.de, .int .i64 m.kp, .int .i64 m.ki, .int .i64 m.sh, .int .i64 m.lo, .int .i64 m.hi, .int .i64 m.rate, .int .i64 m.ga, .int .i64 m.la, .int .i64 m.de, .int .i64 cp] : Array Value)[i]? := Blk.cell W1.out
      have cW_1 : ∀ (o0 : Obj) (i : Nat), (w1.alloc o0).cell? ⟨w.heap.size, i, none⟩ = (#[.int .i64 b.kp, .int .i64 b.ki, .int .i64 b.sh, .int .i64 b.lo, .int .i64 b.hi, .int .i64 b.rate, .int .i64 b.ga, .int .i64 b.la, .int .i64 b.de, .int .i64 m.kp, .int .i64 m.ki, .int .i64 m.sh, .int .i64 m.lo, .int .i64 m.hi, .int .i64 m.rate, .int .i64 m.ga, .int .i64 m.la, .int .i64 m.de, .int .i64 cp] : Array Value)[i]? := fun _ => Blk.cell (Blk.alloc W1.out _)
      rw [HB1.out]
      go_wp2_with fail
      refine (rcchk m _).mono ?_
      rintro e w2 ⟨rfl, hb⟩
      have W2 := hid (Blk.below W1.out hb (Blk.lt W1.out))
      have B2 : Hid (Below w.heap.size w w2) := hid (Below.trans B1.out (hb.mono (Nat.le_trans B1.out.size (by simp <;> omega))))
      clear hb
      clear cW_0 cW_1
      have cW_0 : ∀ (i : Nat), w2.cell? ⟨w.heap.size, i, none⟩ = (#[.int .i64 b.kp, .int .i64 b.ki, .int .i64 b.sh, .int .i64 b.lo, .int .i64 b.hi, .int .i64 b.rate, .int .i64 b.ga, .int .i64 b.la, .int .i64 b.de, .int .i64 m.kp, .int .i64 m.ki, .int .i64 m.sh, .int .i64 m.lo, .int .i64 m.hi, .int .i64 m.rate, .int .i64 m.ga, .int .i64 m.la, .int .i64 m.de, .int .i64 cp] : Array Value)[i]? := Blk.cell W2.out
      have cW_1 : ∀ (o0 : Obj) (i : Nat), (w2.alloc o0).cell? ⟨w.heap.size, i, none⟩ = (#[.int .i64 b.kp, .int .i64 b.ki, .int .i64 b.sh, .int .i64 b.lo, .int .i64 b.hi, .int .i64 b.rate, .int .i64 b.ga, .int .i64 b.la, .int .i64 b.de, .int .i64 m.kp, .int .i64 m.ki, .int .i64 m.sh, .int .i64 m.lo, .int .i64 m.hi, .int .i64 m.rate, .int .i64 m.ga, .int .i64 m.la, .int .i64 m.de, .int .i64 cp] : Array Value)[i]? := fun _ => Blk.cell (Blk.alloc W2.out _)
      rw [HM1.out]
      by_cases hcp : -256 ≤ cp ∧ cp ≤ 256
      · have R : Hid (0 = chkW b m cp) := hid (by rw [← R0.out, if_pos hcp])
        obtain ⟨hc1, hc2⟩ := hcp
        go_wp2
        go_ret
        exact ⟨ret_i R.out, B2.out⟩
      · have R : Hid (1 = chkW b m cp) := hid (by rw [← R0.out, if_neg hcp])
        rcases (show cp < -256 ∨ 256 < cp by omega) with hc1 | hc1
        all_goals
          clear hcp
          go_wp2
          go_ret
          exact ⟨ret_i R.out, B2.out⟩
    · have R : Hid (m.err = chkW b m cp) := hid (by simp [chkW, hb1, hm1])
      have hz : (m.err != 0) = true := by simpa using hm1
      clear hb1 hm1
      go_enter Try.func33, Try.ntmps33
      go_wp2_with fail
      refine (rcchk b _).mono ?_
      rintro e w1 ⟨rfl, hb⟩
      have W1 : Hid (Blk w1 (w.heap.size) 29 #[.int .i64 b.kp, .int .i64 b.ki, .int .i64 b.sh, .int .i64 b.lo, .int .i64 b.hi, .int .i64 b.rate, .int .i64 b.ga, .int .i64 b.la, .int .i64 b.de, .int .i64 m.kp, .int .i64 m.ki, .int .i64 m.sh, .int .i64 m.lo, .int .i64 m.hi, .int .i64 m.rate, .int .i64 m.ga, .int .i64 m.la, .int .i64 m.de, .int .i64 cp]) := hid (Blk.below (Blk.at_new _ (by simp)) hb (by simp <;> omega))
      have B1 : Hid (Below w.heap.size w w1) := hid (Below.trans ((Below.refl _ _).alloc (by simp <;> omega) _) (hb.mono (by simp <;> omega)))
      clear hb
      have cW_0 : ∀ (i : Nat), w1.cell? ⟨w.heap.size, i, none⟩ = (#[.int .i64 b.kp, .int .i64 b.ki, .int .i64 b.sh, .int .i64 b.lo, .int .i64 b.hi, .int .i64 b.rate, .int .i64 b.ga, .int .i64 b.la, .int .i64 b.de, .int .i64 m.kp, .int .i64 m.ki, .int .i64 m.sh, .int .i64 m.lo, .int .i64 m.hi, .int .i64 m.rate, .int .i64 m.ga, .int .i64 m.la, .int .i64 m.de, .int .i64 cp] : Array Value)[i]? := Blk.cell W1.out
      have cW_1 : ∀ (o0 : Obj) (i : Nat), (w1.alloc o0).cell? ⟨w.heap.size, i, none⟩ = (#[.int .i64 b.kp, .int .i64 b.ki, .int .i64 b.sh, .int .i64 b.lo, .int .i64 b.hi, .int .i64 b.rate, .int .i64 b.ga, .int .i64 b.la, .int .i64 b.de, .int .i64 m.kp, .int .i64 m.ki, .int .i64 m.sh, .int .i64 m.lo, .int .i64 m.hi, .int .i64 m.rate, .int .i64 m.ga, .int .i64 m.la, .int .i64 m.de, .int .i64 cp] : Array Value)[i]? := fun _ => Blk.cell (Blk.alloc W1.out _)
      rw [HB1.out]
      go_wp2_with fail
      refine (rcchk m _).mono ?_
      rintro e w2 ⟨rfl, hb⟩
      have W2 := hid (Blk.below W1.out hb (Blk.lt W1.out))
      have B2 : Hid (Below w.heap.size w w2) := hid (Below.trans B1.out (hb.mono (Nat.le_trans B1.out.size (by simp <;> omega))))
      clear hb
      clear cW_0 cW_1
      have cW_0 : ∀ (i : Nat), w2.cell? ⟨w.heap.size, i, none⟩ = (#[.int .i64 b.kp, .int .i64 b.ki, .int .i64 b.sh, .int .i64 b.lo, .int .i64 b.hi, .int .i64 b.rate, .int .i64 b.ga, .int .i64 b.la, .int .i64 b.de, .int .i64 m.kp, .int .i64 m.ki, .int .i64 m.sh, .int .i64 m.lo, .int .i64 m.hi, .int .i64 m.rate, .int .i64 m.ga, .int .i64 m.la, .int .i64 m.de, .int .i64 cp] : Array Value)[i]? := Blk.cell W2.out
      have cW_1 : ∀ (o0 : Obj) (i : Nat), (w2.alloc o0).cell? ⟨w.heap.size, i, none⟩ = (#[.int .i64 b.kp, .int .i64 b.ki, .int .i64 b.sh, .int .i64 b.lo, .int .i64 b.hi, .int .i64 b.rate, .int .i64 b.ga, .int .i64 b.la, .int .i64 b.de, .int .i64 m.kp, .int .i64 m.ki, .int .i64 m.sh, .int .i64 m.lo, .int .i64 m.hi, .int .i64 m.rate, .int .i64 m.ga, .int .i64 m.la, .int .i64 m.de, .int .i64 cp] : Array Value)[i]? := fun _ => Blk.cell (Blk.alloc W2.out _)
      go_wp2
      go_ret
      exact ⟨ret_i R.out, B2.out⟩
  · have R : Hid (b.err = chkW b m cp) := hid (by simp [chkW, hb1])
    have hz : (b.err != 0) = true := by simpa using hb1
    clear hb1
    go_enter Try.func33, Try.ntmps33
    go_wp2_with fail
    refine (rcchk b _).mono ?_
    rintro e w1 ⟨rfl, hb⟩
    have W1 : Hid (Blk w1 (w.heap.size) 29 #[.int .i64 b.kp, .int .i64 b.ki, .int .i64 b.sh, .int .i64 b.lo, .int .i64 b.hi, .int .i64 b.rate, .int .i64 b.ga, .int .i64 b.la, .int .i64 b.de, .int .i64 m.kp, .int .i64 m.ki, .int .i64 m.sh, .int .i64 m.lo, .int .i64 m.hi, .int .i64 m.rate, .int .i64 m.ga, .int .i64 m.la, .int .i64 m.de, .int .i64 cp]) := hid (Blk.below (Blk.at_new _ (by simp)) hb (by simp <;> omega))
    have B1 : Hid (Below w.heap.size w w1) := hid (Below.trans ((Below.refl _ _).alloc (by simp <;> omega) _) (hb.mono (by simp <;> omega)))
    clear hb
    have cW_0 : ∀ (i : Nat), w1.cell? ⟨w.heap.size, i, none⟩ = (#[.int .i64 b.kp, .int .i64 b.ki, .int .i64 b.sh, .int .i64 b.lo, .int .i64 b.hi, .int .i64 b.rate, .int .i64 b.ga, .int .i64 b.la, .int .i64 b.de, .int .i64 m.kp, .int .i64 m.ki, .int .i64 m.sh, .int .i64 m.lo, .int .i64 m.hi, .int .i64 m.rate, .int .i64 m.ga, .int .i64 m.la, .int .i64 m.de, .int .i64 cp] : Array Value)[i]? := Blk.cell W1.out
    have cW_1 : ∀ (o0 : Obj) (i : Nat), (w1.alloc o0).cell? ⟨w.heap.size, i, none⟩ = (#[.int .i64 b.kp, .int .i64 b.ki, .int .i64 b.sh, .int .i64 b.lo, .int .i64 b.hi, .int .i64 b.rate, .int .i64 b.ga, .int .i64 b.la, .int .i64 b.de, .int .i64 m.kp, .int .i64 m.ki, .int .i64 m.sh, .int .i64 m.lo, .int .i64 m.hi, .int .i64 m.rate, .int .i64 m.ga, .int .i64 m.la, .int .i64 m.de, .int .i64 cp] : Array Value)[i]? := fun _ => Blk.cell (Blk.alloc W1.out _)
    go_wp2
    go_ret
    exact ⟨ret_i R.out, B1.out⟩

/-- A column of a list of rows. -/
def col (i : Nat) (l : List (List Int)) : List Int := l.map (fun r => r.getD i 0)
theorem col_len (i : Nat) (l : List (List Int)) : (col i l).length = l.length := by simp [col]
theorem col_get {i k : Nat} {l : List (List Int)} {r : List Int} (h : l[k]? = some r) : (col i l)[k]? = some (r.getD i 0) := by simp [col, h]
theorem col_take (i k : Nat) (l : List (List Int)) : col i (l.take k) = (col i l).take k := by simp [col, List.map_take]
theorem take_more {α : Type} {l : List α} {k : Nat} {p : α} (h : l[k]? = some p) : l.take (k + 1) = l.take k ++ [p] := by
  rw [List.take_add_one, h]; rfl
theorem two_at {rows : List (List Int)} (h : ∀ r ∈ rows, r.length = 2) {k : Nat} (hk : k < rows.length) : ∃ s v : Int, rows[k]? = some [s, v] ∧ (ints rows.flatten)[2 * k]? = some (.int .i64 s) ∧ (ints rows.flatten)[2 * k + 1]? = some (.int .i64 v) := by
  have hg := flatten_get 2 (by decide) rows h
  have hr : rows[k]? = some rows[k] := List.getElem?_eq_getElem hk
  have hm := h rows[k] (List.getElem_mem hk)
  obtain ⟨s, v, e⟩ : ∃ s v, rows[k] = [s, v] := by
    match hrk : rows[k], hm with
    | [s, v], _ => exact ⟨s, v, rfl⟩
  refine ⟨s, v, by rw [hr, e], ?_, ?_⟩
  · rw [ints_get, hg, show 2 * k / 2 = k by omega, hr, e, show 2 * k % 2 = 0 by omega]; rfl
  · rw [ints_get, hg, show (2 * k + 1) / 2 = k by omega, hr, e, show (2 * k + 1) % 2 = 1 by omega]; rfl
/-- The cells of the k-th reading, in every later world. -/
theorem cells_at {w : World} {A : Option Addr} {n : Nat} {rows : List (List Int)} (h : Rds Nn w 2 A n (ints rows.flatten)) (t : ∀ r ∈ rows, r.length = 2) (hn : n = rows.length) {k : Nat} (hk : k < n) : ∃ p o, ∃ s v : Int, A = some ⟨p, o, none⟩ ∧ p < w.heap.size ∧ rows[k]? = some [s, v] ∧ ∀ W, Below w.heap.size w W → W.cell? ⟨p, o + k * 2, none⟩ = some (.int .i64 s) ∧ W.cell? ⟨p, o + k * 2 + 1, none⟩ = some (.int .i64 v) := by
  obtain ⟨p, o, rfl, hp, _, hr⟩ := Rds.plain h (by omega) (by decide)
  obtain ⟨s, v, e, e1, e2⟩ := two_at t (k := k) (by omega)
  refine ⟨p, o, s, v, rfl, hp, e, fun W hW => ⟨?_, ?_⟩⟩
  · rw [← hr _ _ e1, Nat.mul_comm]; exact World.cell?_of_block (hW.block _ hp)
  · rw [← hr _ _ e2, Nat.mul_comm]; exact World.cell?_of_block (hW.block _ hp)
theorem int_at {w : World} {A : Option Addr} {n : Nat} {l : List Int} (h : Rds Nn w 1 A n (ints l)) {k : Nat} (hk : k < n) : ∃ p o, ∃ s : Int, A = some ⟨p, o, none⟩ ∧ p < w.heap.size ∧ l[k]? = some s ∧ ∀ W, Below w.heap.size w W → W.cell? ⟨p, o + k, none⟩ = some (.int .i64 s) := by
  obtain ⟨p, o, rfl, hp, _, hr⟩ := Rds.plain h (by omega) (by decide)
  have hl : l.length = n := by have := h.1; simpa [ints] using this
  have e : l[k]? = some l[k] := List.getElem?_eq_getElem (by omega)
  refine ⟨p, o, l[k], rfl, hp, e, fun W hW => ?_⟩
  rw [← hr k (.int .i64 l[k]) (by rw [ints_get, e]; rfl)]; exact World.cell?_of_block (hW.block _ hp)
/-- A row of whole numbers in new memory. -/
def NewInts (w w' : World) (v : Value) (l : List Int) : Prop := w'.ownsRow w.heap.size 3 1 v l.length (ints l) ∧ Below w.heap.size w w'
def ColPost (w : World) (l : List Int) : Ending → World → Prop := fun e w' => ∃ u, e = .returned u ∧ NewInts w w' u l
set_option maxRecDepth 100000 in
set_option maxHeartbeats 4000000 in
theorem basis_any (a : Option Addr) (c n : Nat) (rs : List (List Int)) (w : World) (r : Rds Nn w 2 a n (ints rs.flatten)) (t : ∀ r ∈ rs, r.length = 2) (hn : n = rs.length) (hl : n ≤ 1000000) : Calls Try.prog 54 #[.slice a n c] w (ColPost w (col 0 rs)) := by
  have RR := hid r
  have T := hid t
  have HN := hid hn
  clear r t hn
  go_enter Try.func54, Try.ntmps54
  go_wp2
  go_loopw [3, 4] (fun u i wr => ∃ k : Nat, k ≤ n ∧ i = .int .i64 k ∧ wr.ownsRow w.heap.size 3 1 u k (ints (col 0 (rs.take k))) ∧ Below w.heap.size w wr) (fun _ i _ => n - (intOf i).toNat)
  case atStart => exact ⟨0, Nat.zero_le _, rfl, own_nil _ _ _ _, Below.refl _ _⟩
  case round =>
    obtain ⟨k, hk, rfl, hown, hbel⟩ := hrel
    have OW := hid hown
    have BB := hid hbel
    clear hbel
    by_cases hlt : k < n
    · obtain ⟨p, o, s, v, rfl, hp, he, hcell⟩ := cells_at RR.out T.out HN.out hlt
      obtain ⟨A, cp, rfl, _, _⟩ := own_form hown
      have E1 : Hid (∀ W : World, Below w.heap.size w W → W.cell? ⟨p, o + k * 2, none⟩ = some (.int .i64 s)) := hid (fun W hW => (hcell W hW).1)
      have e1 := E1.out _ BB.out
      have NC : Hid (col 0 (rs.take (k + 1)) = col 0 (rs.take k) ++ [s]) := hid (by rw [take_more he]; simp [col])
      clear hown hcell he
      go_wp2_with (at_builtin; refine wpList_app info3 Try.underlying30 (by kernel_rfl) (by omega) (by omega) (own_keep (own_base_le OW.out (Nat.zero_le _)) ((Chg.refl Nn _).alloc _) (fun _ _ => id)) (Rds.one _ _ _) (by intro u hu; simp at hu; subst hu; rfl) (by omega) rfl rfl rfl rfl ?_; intro u6 w6 hown hchg hnew; have NR : Hid (∀ g, Rw (.slice A k cp) g → w.heap.size ≤ g) := hid (fun g hg => (own_blk OW.out g hg).1); have A5 := hid (Below.alloc BB.out BB.out.size (.cells #[.int .i64 s] 3)); have B6 := hid (hchg.then_below A5.out (fun j hj hf => by have h1 := NR.out j hf; omega) A5.out.size); have O6 := hid (own_rebase hown (base' := w.heap.size) (fun g hg => (hnew g hg).elim (fun h => NR.out g h) (fun h => by have h2 := BB.out.size; simp at h; omega))); clear hown hchg hnew)
      go_roundw
      case rel => exact ⟨k + 1, by omega, by go_num, by rw [NC.out, ints_append]; exact O6.out, B6.out⟩
      case measure => simp [intOf]; omega
    · obtain rfl : k = n := by omega
      have TK : Hid (rs.take k = rs) := hid (List.take_of_length_le (by rw [← HN.out]; exact Nat.le_refl _))
      go_wp2
      go_ret
      have hown := OW.out
      rw [TK.out] at hown
      exact ⟨_, rfl, by rw [col_len, ← HN.out]; exact hown, BB.out⟩
set_option maxRecDepth 100000 in
set_option maxHeartbeats 4000000 in
theorem moist_any (a : Option Addr) (c n : Nat) (rs : List (List Int)) (w : World) (r : Rds Nn w 2 a n (ints rs.flatten)) (t : ∀ r ∈ rs, r.length = 2) (hn : n = rs.length) (hl : n ≤ 1000000) : Calls Try.prog 55 #[.slice a n c] w (ColPost w (col 1 rs)) := by
  have RR := hid r
  have T := hid t
  have HN := hid hn
  clear r t hn
  go_enter Try.func55, Try.ntmps55
  go_wp2
  go_loopw [3, 4] (fun u i wr => ∃ k : Nat, k ≤ n ∧ i = .int .i64 k ∧ wr.ownsRow w.heap.size 3 1 u k (ints (col 1 (rs.take k))) ∧ Below w.heap.size w wr) (fun _ i _ => n - (intOf i).toNat)
  case atStart => exact ⟨0, Nat.zero_le _, rfl, own_nil _ _ _ _, Below.refl _ _⟩
  case round =>
    obtain ⟨k, hk, rfl, hown, hbel⟩ := hrel
    have OW := hid hown
    have BB := hid hbel
    clear hbel
    by_cases hlt : k < n
    · obtain ⟨p, o, s, v, rfl, hp, he, hcell⟩ := cells_at RR.out T.out HN.out hlt
      obtain ⟨A, cp, rfl, _, _⟩ := own_form hown
      have E1 : Hid (∀ W : World, Below w.heap.size w W → W.cell? ⟨p, o + k * 2 + 1, none⟩ = some (.int .i64 v)) := hid (fun W hW => (hcell W hW).2)
      have e1 := E1.out _ BB.out
      have NC : Hid (col 1 (rs.take (k + 1)) = col 1 (rs.take k) ++ [v]) := hid (by rw [take_more he]; simp [col])
      clear hown hcell he
      go_wp2_with (at_builtin; refine wpList_app info3 Try.underlying30 (by kernel_rfl) (by omega) (by omega) (own_keep (own_base_le OW.out (Nat.zero_le _)) ((Chg.refl Nn _).alloc _) (fun _ _ => id)) (Rds.one _ _ _) (by intro u hu; simp at hu; subst hu; rfl) (by omega) rfl rfl rfl rfl ?_; intro u6 w6 hown hchg hnew; have NR : Hid (∀ g, Rw (.slice A k cp) g → w.heap.size ≤ g) := hid (fun g hg => (own_blk OW.out g hg).1); have A5 := hid (Below.alloc BB.out BB.out.size (.cells #[.int .i64 v] 3)); have B6 := hid (hchg.then_below A5.out (fun j hj hf => by have h1 := NR.out j hf; omega) A5.out.size); have O6 := hid (own_rebase hown (base' := w.heap.size) (fun g hg => (hnew g hg).elim (fun h => NR.out g h) (fun h => by have h2 := BB.out.size; simp at h; omega))); clear hown hchg hnew)
      go_roundw
      case rel => exact ⟨k + 1, by omega, by go_num, by rw [NC.out, ints_append]; exact O6.out, B6.out⟩
      case measure => simp [intOf]; omega
    · obtain rfl : k = n := by omega
      have TK : Hid (rs.take k = rs) := hid (List.take_of_length_le (by rw [← HN.out]; exact Nat.le_refl _))
      go_wp2
      go_ret
      have hown := OW.out
      rw [TK.out] at hown
      exact ⟨_, rfl, by rw [col_len, ← HN.out]; exact hown, BB.out⟩
end Go.Proofs.Ytddphdkhaaolmaa
