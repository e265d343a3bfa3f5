/- Closed loops: Settle. -/
import Derived.Test.YtkcalkiibolceaaCl3
namespace Go.Proofs.Ytkcalkiibolceaa
open Go.RowKit

def nearI (v x tol : Int) : Prop := v - x ≤ tol ∧ x - v ≤ tol
/-- The value behind n steps of the same kind. -/
def val (kp ki sh lo hi rate ga la : Int) (s : SS) (x : Int) (n : Nat) : Int := (fin kp ki sh lo hi rate ga la s (List.replicate n (x, 0))).v
/-- The last hold values behind n steps are near. -/
def SetAt (f : Nat → Int) (x tol hold : Int) (n : Nat) : Prop := hold ≤ (n : Int) ∧ ∀ j : Nat, (n : Int) - hold < (j : Int) → j ≤ n → nearI (f j) x tol
def bandB (tol hold most : Int) : Prop := 0 ≤ tol ∧ tol ≤ 16777216 ∧ 1 ≤ hold ∧ hold ≤ 512 ∧ 0 ≤ most ∧ most ≤ 512
instance {tol hold most : Int} : Decidable (bandB tol hold most) := by unfold bandB; infer_instance
def stPre (kp ki sh lo hi rate ga la de out v x tol hold most : Int) : Int := if chkC kp ki sh lo hi rate ga la de ≠ 0 then chkC kp ki sh lo hi rate ga la de else if (okB lo hi out v && absB x 16777216) = true ∧ bandB tol hold most then 0 else 1
def StRes (kp ki sh lo hi rate ga la de out v x tol hold most n e : Int) : Prop :=
  (stPre kp ki sh lo hi rate ga la de out v x tol hold most ≠ 0 → n = 0 ∧ e = stPre kp ki sh lo hi rate ga la de out v x tol hold most) ∧
  (stPre kp ki sh lo hi rate ga la de out v x tol hold most = 0 → (∃ k : Nat, e = 0 ∧ n = k ∧ 1 ≤ n ∧ n ≤ most ∧ SetAt (val kp ki sh lo hi rate ga la (s0 out v de.toNat) x) x tol hold k ∧ ∀ m : Nat, m < k → ¬ SetAt (val kp ki sh lo hi rate ga la (s0 out v de.toNat) x) x tol hold m) ∨ (e = 32 ∧ n = 0 ∧ ∀ m : Nat, (m : Int) ≤ most → ¬ SetAt (val kp ki sh lo hi rate ga la (s0 out v de.toNat) x) x tol hold m))
theorem st_one {kp ki sh lo hi rate ga la de out v x tol hold most n e n' e' : Int} (h : StRes kp ki sh lo hi rate ga la de out v x tol hold most n e) (k : StRes kp ki sh lo hi rate ga la de out v x tol hold most n' e') : n = n' ∧ e = e' := by
  by_cases hz : stPre kp ki sh lo hi rate ga la de out v x tol hold most = 0
  · rcases h.2 hz with ⟨a, rfl, rfl, a1, a2, a3, a4⟩ | ⟨rfl, rfl, a4⟩ <;> rcases k.2 hz with ⟨b, rfl, rfl, b1, b2, b3, b4⟩ | ⟨rfl, rfl, b4⟩
    · rcases Nat.lt_trichotomy a b with h | h | h
      · exact absurd a3 (b4 a h)
      · subst h; exact ⟨rfl, rfl⟩
      · exact absurd b3 (a4 b h)
    · exact absurd a3 (b4 a a2)
    · exact absurd b3 (a4 b b2)
    · exact ⟨rfl, rfl⟩
  · obtain ⟨rfl, rfl⟩ := h.1 hz
    obtain ⟨rfl, rfl⟩ := k.1 hz
    exact ⟨rfl, rfl⟩
theorem fld2 (a b c : Int) (w : World) : Sem.run Try.prog (Instr.field 49 (.agg #[.int .i64 a, .int .i64 b, .int .i64 c]) 2) w = .ok (.int .i64 c) w := by kernel_rfl
def StPost (kp ki sh lo hi rate ga la de out v x tol hold most : Int) (w : World) : Ending → World → Prop := fun e w' => ∃ n c, e = .returned (.tuple #[.int .i64 n, .int .i64 c]) ∧ StRes kp ki sh lo hi rate ga la de out v x tol hold most n c ∧ Below w.heap.size w w'
theorem st_bad {kp ki sh lo hi rate ga la de out v x tol hold most y : Int} {w w' : World} (h : y = stPre kp ki sh lo hi rate ga la de out v x tol hold most) (hy : y ≠ 0) (hb : Below w.heap.size w w') : StPost kp ki sh lo hi rate ga la de out v x tol hold most w (.returned (.tuple #[.int .i64 0, .int .i64 y])) w' := by
  subst h
  exact ⟨_, _, rfl, ⟨fun _ => ⟨rfl, rfl⟩, fun h => absurd h hy⟩, hb⟩
/-- How many of the last values are near. -/
structure RowOf (f : Nat → Int) (x tol hold : Int) (n r : Nat) : Prop where
  le : r ≤ n
  near : ∀ j, n - r < j → j ≤ n → nearI (f j) x tol
  far : r = n ∨ ¬ nearI (f (n - r)) x tol
  none : ∀ m, m ≤ n → ¬ SetAt f x tol hold m
theorem RowOf.hit {f : Nat → Int} {x tol hold : Int} {n r : Nat} (h : RowOf f x tol hold n r) (hn : nearI (f (n + 1)) x tol) (hr : hold ≤ ((r + 1 : Nat) : Int)) : SetAt f x tol hold (n + 1) := by
  refine ⟨by have := h.le; omega, fun j h1 h2 => ?_⟩
  by_cases hj : j = n + 1
  · subst hj; exact hn
  · exact h.near j (by have := h.le; omega) (by omega)
theorem RowOf.miss {f : Nat → Int} {x tol hold : Int} {n r : Nat} (h : RowOf f x tol hold n r) (hn : nearI (f (n + 1)) x tol) (hr : ((r + 1 : Nat) : Int) < hold) : RowOf f x tol hold (n + 1) (r + 1) := by
  have hle := h.le
  refine ⟨by omega, fun j h1 h2 => ?_, ?_, fun m hm hs => ?_⟩
  · by_cases hj : j = n + 1
    · subst hj; exact hn
    · exact h.near j (by omega) (by omega)
  · rcases h.far with hf | hf
    · exact .inl (by omega)
    · exact .inr (by rw [show n + 1 - (r + 1) = n - r by omega]; exact hf)
  · by_cases hmn : m ≤ n
    · exact h.none m hmn hs
    · obtain rfl : m = n + 1 := by omega
      rcases h.far with hf | hf
      · have := hs.1; omega
      · exact hf (hs.2 (n - r) (by omega) (by omega))
theorem RowOf.zero {f : Nat → Int} {x tol hold : Int} {n r : Nat} (h : RowOf f x tol hold n r) (hn : ¬ nearI (f (n + 1)) x tol) (hh : 1 ≤ hold) : RowOf f x tol hold (n + 1) 0 := by
  refine ⟨by omega, fun j h1 h2 => by omega, .inr (by simpa using hn), fun m hm hs => ?_⟩
  by_cases hmn : m ≤ n
  · exact h.none m hmn hs
  · obtain rfl : m = n + 1 := by omega
    exact hn (hs.2 (n + 1) (by omega) (Nat.le_refl _))
theorem RowOf.first {f : Nat → Int} {x tol hold : Int} (hh : 1 ≤ hold) : RowOf f x tol hold 0 0 := by
  refine ⟨Nat.le_refl _, fun j h1 h2 => by omega, .inl rfl, fun m hm hs => ?_⟩
  have := hs.1
  omega
set_option maxRecDepth 100000 in
set_option maxHeartbeats 8000000 in
theorem settle_any (kp ki sh lo hi rate ga la de out v x tol hold most : Int) (w : World) : Calls Try.prog 19 #[.agg #[.int .i64 kp, .int .i64 ki, .int .i64 sh, .int .i64 lo, .int .i64 hi, .int .i64 rate, .int .i64 ga, .int .i64 la, .int .i64 de], .int .i64 out, .int .i64 v, .int .i64 x, .agg #[.int .i64 tol, .int .i64 hold, .int .i64 most]] w (StPost kp ki sh lo hi rate ga la de out v x tol hold most w) := by
  by_cases hc : chkC kp ki sh lo hi rate ga la de = 0
  · have HC := hid hc
    obtain ⟨D, rfl⟩ := Int.eq_ofNat_of_zero_le (chkP_ok (chkC_ok hc).2.1).2.2.2.2.1
    cases hb : okB lo hi out v
    · have HB := hid hb
      have R : Hid (1 = stPre kp ki sh lo hi rate ga la (D : Int) out v x tol hold most) := hid (by simp [stPre, hc, hb])
      go_enter Try.func19, Try.ntmps19
      go_wp2_with fail
      refine (ccheck_any _ _ _ _ _ _ _ _ _ _).mono ?_
      rintro e w1 ⟨rfl, hb⟩
      have C1 : Hid (Blk w1 (w.heap.size) 27 #[.int .i64 kp, .int .i64 ki, .int .i64 sh, .int .i64 lo, .int .i64 hi, .int .i64 rate, .int .i64 ga, .int .i64 la, .int .i64 ((D : Int))]) := hid (Blk.below (Blk.alloc (Blk.at_new _ (by simp)) _) hb (by simp <;> omega))
      have W1 : Hid (Blk w1 (w.heap.size + 1) 45 #[.int .i64 tol, .int .i64 hold, .int .i64 most]) := hid (Blk.below (Blk.at_new _ (by simp)) hb (by simp <;> omega))
      have B1 : Hid (Below w.heap.size w w1) := hid (Below.trans (((Below.refl _ _).alloc (by simp <;> omega) _).alloc (by simp <;> omega) _) (hb.mono (by simp <;> omega)))
      clear hb
      have cC_0 : ∀ (i : Nat), w1.cell? ⟨w.heap.size, i, none⟩ = (#[.int .i64 kp, .int .i64 ki, .int .i64 sh, .int .i64 lo, .int .i64 hi, .int .i64 rate, .int .i64 ga, .int .i64 la, .int .i64 ((D : Int))] : Array Value)[i]? := Blk.cell C1.out
      have cC_1 : ∀ (o0 : Obj) (i : Nat), (w1.alloc o0).cell? ⟨w.heap.size, i, none⟩ = (#[.int .i64 kp, .int .i64 ki, .int .i64 sh, .int .i64 lo, .int .i64 hi, .int .i64 rate, .int .i64 ga, .int .i64 la, .int .i64 ((D : Int))] : Array Value)[i]? := fun _ => Blk.cell (Blk.alloc C1.out _)
      have cW_0 : ∀ (i : Nat), w1.cell? ⟨w.heap.size + 1, i, none⟩ = (#[.int .i64 tol, .int .i64 hold, .int .i64 most] : Array Value)[i]? := Blk.cell W1.out
      have cW_1 : ∀ (o0 : Obj) (i : Nat), (w1.alloc o0).cell? ⟨w.heap.size + 1, i, none⟩ = (#[.int .i64 tol, .int .i64 hold, .int .i64 most] : Array Value)[i]? := fun _ => Blk.cell (Blk.alloc W1.out _)
      have hz := HC.out
      rw [hz]
      go_wp2_with fail
      refine (begin_bad _ _ _ _ _ _ _ _ _ _ _ _ HC.out HB.out).mono ?_
      rintro e w2 ⟨rfl, hb⟩
      have C2 := hid (Blk.below C1.out hb (Blk.lt C1.out))
      have W2 := hid (Blk.below W1.out hb (Blk.lt W1.out))
      have B2 : Hid (Below w.heap.size w w2) := hid (Below.trans B1.out (hb.mono (Nat.le_trans B1.out.size (by simp <;> omega))))
      clear hb
      clear cC_0 cC_1 cW_0 cW_1
      have cC_0 : ∀ (i : Nat), w2.cell? ⟨w.heap.size, i, none⟩ = (#[.int .i64 kp, .int .i64 ki, .int .i64 sh, .int .i64 lo, .int .i64 hi, .int .i64 rate, .int .i64 ga, .int .i64 la, .int .i64 ((D : Int))] : Array Value)[i]? := Blk.cell C2.out
      have cC_1 : ∀ (o0 : Obj) (i : Nat), (w2.alloc o0).cell? ⟨w.heap.size, i, none⟩ = (#[.int .i64 kp, .int .i64 ki, .int .i64 sh, .int .i64 lo, .int .i64 hi, .int .i64 rate, .int .i64 ga, .int .i64 la, .int .i64 ((D : Int))] : Array Value)[i]? := fun _ => Blk.cell (Blk.alloc C2.out _)
      have cW_0 : ∀ (i : Nat), w2.cell? ⟨w.heap.size + 1, i, none⟩ = (#[.int .i64 tol, .int .i64 hold, .int .i64 most] : Array Value)[i]? := Blk.cell W2.out
      have cW_1 : ∀ (o0 : Obj) (i : Nat), (w2.alloc o0).cell? ⟨w.heap.size + 1, i, none⟩ = (#[.int .i64 tol, .int .i64 hold, .int .i64 most] : Array Value)[i]? := fun _ => Blk.cell (Blk.alloc W2.out _)
      go_wp2
      go_ret2
      exact st_bad R.out (by first | decide | exact RN.out) B2.out
    · have HB := hid hb
      cases hs : absB x 16777216
      · have R : Hid (1 = stPre kp ki sh lo hi rate ga la (D : Int) out v x tol hold most) := hid (by simp [stPre, hc, hs])
        go_enter Try.func19, Try.ntmps19
        go_wp2_with fail
        refine (ccheck_any _ _ _ _ _ _ _ _ _ _).mono ?_
        rintro e w1 ⟨rfl, hb⟩
        have C1 : Hid (Blk w1 (w.heap.size) 27 #[.int .i64 kp, .int .i64 ki, .int .i64 sh, .int .i64 lo, .int .i64 hi, .int .i64 rate, .int .i64 ga, .int .i64 la, .int .i64 ((D : Int))]) := hid (Blk.below (Blk.alloc (Blk.at_new _ (by simp)) _) hb (by simp <;> omega))
        have W1 : Hid (Blk w1 (w.heap.size + 1) 45 #[.int .i64 tol, .int .i64 hold, .int .i64 most]) := hid (Blk.below (Blk.at_new _ (by simp)) hb (by simp <;> omega))
        have B1 : Hid (Below w.heap.size w w1) := hid (Below.trans (((Below.refl _ _).alloc (by simp <;> omega) _).alloc (by simp <;> omega) _) (hb.mono (by simp <;> omega)))
        clear hb
        have cC_0 : ∀ (i : Nat), w1.cell? ⟨w.heap.size, i, none⟩ = (#[.int .i64 kp, .int .i64 ki, .int .i64 sh, .int .i64 lo, .int .i64 hi, .int .i64 rate, .int .i64 ga, .int .i64 la, .int .i64 ((D : Int))] : Array Value)[i]? := Blk.cell C1.out
        have cC_1 : ∀ (o0 : Obj) (i : Nat), (w1.alloc o0).cell? ⟨w.heap.size, i, none⟩ = (#[.int .i64 kp, .int .i64 ki, .int .i64 sh, .int .i64 lo, .int .i64 hi, .int .i64 rate, .int .i64 ga, .int .i64 la, .int .i64 ((D : Int))] : Array Value)[i]? := fun _ => Blk.cell (Blk.alloc C1.out _)
        have cW_0 : ∀ (i : Nat), w1.cell? ⟨w.heap.size + 1, i, none⟩ = (#[.int .i64 tol, .int .i64 hold, .int .i64 most] : Array Value)[i]? := Blk.cell W1.out
        have cW_1 : ∀ (o0 : Obj) (i : Nat), (w1.alloc o0).cell? ⟨w.heap.size + 1, i, none⟩ = (#[.int .i64 tol, .int .i64 hold, .int .i64 most] : Array Value)[i]? := fun _ => Blk.cell (Blk.alloc W1.out _)
        have hz := HC.out
        rw [hz]
        go_wp2_with fail
        refine (begin_ok _ _ _ _ _ _ _ _ _ _ _ _ HC.out HB.out).mono ?_
        rintro e w2 ⟨L, b, lb, lv, rfl, hp, hpg, hb⟩
        have C2 := hid (Blk.below C1.out hb (Blk.lt C1.out))
        have W2 := hid (Blk.below W1.out hb (Blk.lt W1.out))
        have B2 : Hid (Below w.heap.size w w2) := hid (Below.trans B1.out (hb.mono (Nat.le_trans B1.out.size (by simp <;> omega))))
        clear cC_0 cC_1 cW_0 cW_1
        have cC_0 : ∀ (i : Nat), w2.cell? ⟨w.heap.size, i, none⟩ = (#[.int .i64 kp, .int .i64 ki, .int .i64 sh, .int .i64 lo, .int .i64 hi, .int .i64 rate, .int .i64 ga, .int .i64 la, .int .i64 ((D : Int))] : Array Value)[i]? := Blk.cell C2.out
        have cC_1 : ∀ (o0 : Obj) (i : Nat), (w2.alloc o0).cell? ⟨w.heap.size, i, none⟩ = (#[.int .i64 kp, .int .i64 ki, .int .i64 sh, .int .i64 lo, .int .i64 hi, .int .i64 rate, .int .i64 ga, .int .i64 la, .int .i64 ((D : Int))] : Array Value)[i]? := fun _ => Blk.cell (Blk.alloc C2.out _)
        have cW_0 : ∀ (i : Nat), w2.cell? ⟨w.heap.size + 1, i, none⟩ = (#[.int .i64 tol, .int .i64 hold, .int .i64 most] : Array Value)[i]? := Blk.cell W2.out
        have cW_1 : ∀ (o0 : Obj) (i : Nat), (w2.alloc o0).cell? ⟨w.heap.size + 1, i, none⟩ = (#[.int .i64 tol, .int .i64 hold, .int .i64 most] : Array Value)[i]? := fun _ => Blk.cell (Blk.alloc W2.out _)
        have P0 : Hid (LSt w2 L b lb lv kp ki sh lo hi rate ga la D (s0 out v D)) := hid hp
        have FW : Hid (∀ j, j < w.heap.size → ¬ Fl L b lb lv j) := hid (fun j hj hf => by have h1 := hpg j hf; have h2 := B1.out.size; omega)
        have FG : Hid (∀ j, j < w.heap.size + 2 → ¬ Fl L b lb lv j) := hid (fun j hj hf => by have h1 := hpg j hf; have h2 := W1.out.lt; omega)
        clear hp hpg hb
        go_wp2_with (go_at_call 28; refine (signal_any _ _).mono ?_; rintro e v9 ⟨rfl, rfl⟩)
        go_ret2
        exact st_bad R.out (by first | decide | exact RN.out) B2.out
      · have HS := hid hs
        by_cases hbd : bandB tol hold most
        · have HD := hid hbd
          obtain ⟨d1, d2, d3, d4, d5, d6⟩ := hbd
          go_enter Try.func19, Try.ntmps19
          go_wp2_with fail
          refine (ccheck_any _ _ _ _ _ _ _ _ _ _).mono ?_
          rintro e w1 ⟨rfl, hb⟩
          have C1 : Hid (Blk w1 (w.heap.size) 27 #[.int .i64 kp, .int .i64 ki, .int .i64 sh, .int .i64 lo, .int .i64 hi, .int .i64 rate, .int .i64 ga, .int .i64 la, .int .i64 ((D : Int))]) := hid (Blk.below (Blk.alloc (Blk.at_new _ (by simp)) _) hb (by simp <;> omega))
          have W1 : Hid (Blk w1 (w.heap.size + 1) 45 #[.int .i64 tol, .int .i64 hold, .int .i64 most]) := hid (Blk.below (Blk.at_new _ (by simp)) hb (by simp <;> omega))
          have B1 : Hid (Below w.heap.size w w1) := hid (Below.trans (((Below.refl _ _).alloc (by simp <;> omega) _).alloc (by simp <;> omega) _) (hb.mono (by simp <;> omega)))
          clear hb
          have cC_0 : ∀ (i : Nat), w1.cell? ⟨w.heap.size, i, none⟩ = (#[.int .i64 kp, .int .i64 ki, .int .i64 sh, .int .i64 lo, .int .i64 hi, .int .i64 rate, .int .i64 ga, .int .i64 la, .int .i64 ((D : Int))] : Array Value)[i]? := Blk.cell C1.out
          have cC_1 : ∀ (o0 : Obj) (i : Nat), (w1.alloc o0).cell? ⟨w.heap.size, i, none⟩ = (#[.int .i64 kp, .int .i64 ki, .int .i64 sh, .int .i64 lo, .int .i64 hi, .int .i64 rate, .int .i64 ga, .int .i64 la, .int .i64 ((D : Int))] : Array Value)[i]? := fun _ => Blk.cell (Blk.alloc C1.out _)
          have cW_0 : ∀ (i : Nat), w1.cell? ⟨w.heap.size + 1, i, none⟩ = (#[.int .i64 tol, .int .i64 hold, .int .i64 most] : Array Value)[i]? := Blk.cell W1.out
          have cW_1 : ∀ (o0 : Obj) (i : Nat), (w1.alloc o0).cell? ⟨w.heap.size + 1, i, none⟩ = (#[.int .i64 tol, .int .i64 hold, .int .i64 most] : Array Value)[i]? := fun _ => Blk.cell (Blk.alloc W1.out _)
          have hz := HC.out
          rw [hz]
          go_wp2_with fail
          refine (begin_ok _ _ _ _ _ _ _ _ _ _ _ _ HC.out HB.out).mono ?_
          rintro e w2 ⟨L, b, lb, lv, rfl, hp, hpg, hb⟩
          have C2 := hid (Blk.below C1.out hb (Blk.lt C1.out))
          have W2 := hid (Blk.below W1.out hb (Blk.lt W1.out))
          have B2 : Hid (Below w.heap.size w w2) := hid (Below.trans B1.out (hb.mono (Nat.le_trans B1.out.size (by simp <;> omega))))
          clear cC_0 cC_1 cW_0 cW_1
          have cC_0 : ∀ (i : Nat), w2.cell? ⟨w.heap.size, i, none⟩ = (#[.int .i64 kp, .int .i64 ki, .int .i64 sh, .int .i64 lo, .int .i64 hi, .int .i64 rate, .int .i64 ga, .int .i64 la, .int .i64 ((D : Int))] : Array Value)[i]? := Blk.cell C2.out
          have cC_1 : ∀ (o0 : Obj) (i : Nat), (w2.alloc o0).cell? ⟨w.heap.size, i, none⟩ = (#[.int .i64 kp, .int .i64 ki, .int .i64 sh, .int .i64 lo, .int .i64 hi, .int .i64 rate, .int .i64 ga, .int .i64 la, .int .i64 ((D : Int))] : Array Value)[i]? := fun _ => Blk.cell (Blk.alloc C2.out _)
          have cW_0 : ∀ (i : Nat), w2.cell? ⟨w.heap.size + 1, i, none⟩ = (#[.int .i64 tol, .int .i64 hold, .int .i64 most] : Array Value)[i]? := Blk.cell W2.out
          have cW_1 : ∀ (o0 : Obj) (i : Nat), (w2.alloc o0).cell? ⟨w.heap.size + 1, i, none⟩ = (#[.int .i64 tol, .int .i64 hold, .int .i64 most] : Array Value)[i]? := fun _ => Blk.cell (Blk.alloc W2.out _)
          have P0 : Hid (LSt w2 L b lb lv kp ki sh lo hi rate ga la D (s0 out v D)) := hid hp
          have FW : Hid (∀ j, j < w.heap.size → ¬ Fl L b lb lv j) := hid (fun j hj hf => by have h1 := hpg j hf; have h2 := B1.out.size; omega)
          have FG : Hid (∀ j, j < w.heap.size + 2 → ¬ Fl L b lb lv j) := hid (fun j hj hf => by have h1 := hpg j hf; have h2 := W1.out.lt; omega)
          clear hp hpg hb
          have R : Hid (stPre kp ki sh lo hi rate ga la (D : Int) out v x tol hold most = 0) := hid (by simp [stPre, hc, hb, hs, HD.out])
          have I0 := hid (inv0 (D := D) HB.out (show 0 ≤ la by have := chkP_ok (chkC_ok HC.out).2.1; omega))
          have xb := absB_true HS.out
          go_wp2_with (go_at_call 28; refine (signal_any _ _).mono ?_; rintro e v9 ⟨rfl, rfl⟩)
          go_loopw [15, 16] (fun row i wr => ∃ n r : Nat, row = .int .i64 r ∧ i = .int .i64 ((n : Int) + 1) ∧ (n : Int) ≤ most ∧ LSt wr L b lb lv kp ki sh lo hi rate ga la D (fin kp ki sh lo hi rate ga la (s0 out v D) (List.replicate n (x, 0))) ∧ RowOf (val kp ki sh lo hi rate ga la (s0 out v D) x) x tol hold n r ∧ Blk wr (w.heap.size + 1) 45 #[.int .i64 tol, .int .i64 hold, .int .i64 most] ∧ Below w.heap.size w wr) (fun _ i _ => most.toNat + 2 - (intOf i).toNat)
          case atStart => exact ⟨0, 0, rfl, rfl, d5, P0.out, RowOf.first d3, W2.out, B2.out⟩
          case round =>
            obtain ⟨n, r, rfl, rfl, hn, hL, hrow, hW, hbel⟩ := hrel
            have LL := hid hL
            have RO := hid hrow
            have WW := hid hW
            have BB := hid hbel
            have rle := hrow.le
            have cW := hW.cell
            clear hL hrow hW hbel
            have INV := hid (inv_fin HC.out (List.replicate n (x, 0)) (s0 out v D) I0.out (fun p hp => by have := (List.mem_replicate.1 hp).2; subst this; simp only [okP, HS.out, Bool.true_and]; rfl))
            by_cases hlt : (n : Int) + 1 ≤ most
            · have FN := fin_snoc (kp := kp) (ki := ki) (sh := sh) (lo := lo) (hi := hi) (rate := rate) (ga := ga) (la := la) (x, 0) (List.replicate n (x, 0)) (s0 out v D)
              obtain ⟨t, ht⟩ : ∃ t, nx kp ki sh lo hi rate ga la (fin kp ki sh lo hi rate ga la (s0 out v D) (List.replicate n (x, 0))) x 0 = t := ⟨_, rfl⟩
              rw [ht, ← List.replicate_succ'] at FN
              have tb := (INV.out.next HC.out HS.out (d := 0) (by omega)).vb (chkC_ok HC.out).2.1
              rw [ht] at tb
              have HT := hid ht
              have HF := hid FN
              have HV : Hid (val kp ki sh lo hi rate ga la (s0 out v D) x (n + 1) = t.v) := hid (by unfold val; rw [FN])
              clear ht FN
              go_wp2_with fail
              refine (next_any x 0 _ LL.out HC.out INV.out HS.out (by omega)).mono ?_
              rintro e w5 ⟨rfl, hp5, hc5⟩
              rw [HT.out] at hp5 ⊢
              have P5 := hid hp5
              have B5 := hid (hc5.then_below BB.out FW.out BB.out.size)
              have W5 := hid (WW.out.keep hc5 (FG.out _ (by omega)))
              clear hp5 hc5 cW
              have cW := W5.out.cell
              have fx := fld2 x t.out t.v w5
              by_cases hnr : nearI t.v x tol
              · have HN := hid hnr
                obtain ⟨hn1, hn2⟩ := hnr
                by_cases hr : hold ≤ (r : Int) + 1
                · have HH := hid (RO.out.hit (by rw [HV.out]; exact HN.out) (by omega))
                  go_wp2
                  go_ret2
                  refine ⟨_, _, rfl, ⟨fun h => absurd R.out h, fun _ => .inl ⟨n + 1, rfl, by go_num, by omega, by omega, by rw [Int.toNat_natCast]; exact HH.out, fun m hm => by rw [Int.toNat_natCast]; exact RO.out.none m (by omega)⟩⟩, B5.out⟩
                · have HH := hid (RO.out.miss (by rw [HV.out]; exact HN.out) (by omega))
                  go_wp2
                  go_roundw
                  case rel => exact ⟨n + 1, r + 1, by go_num, by go_num, by omega, by rw [HF.out]; exact P5.out, HH.out, W5.out, B5.out⟩
                  case measure => simp [intOf]; omega
              · have HH := hid (RO.out.zero (by rw [HV.out]; exact hnr) d3)
                have hfar : tol < t.v - x ∨ tol < x - t.v := by
                  unfold nearI at hnr
                  omega
                clear hnr
                rcases hfar with hfar | hfar
                all_goals
                  go_wp2
                  go_roundw
                  case rel => exact ⟨n + 1, 0, by go_num, by go_num, by omega, by rw [HF.out]; exact P5.out, HH.out, W5.out, B5.out⟩
                  case measure => simp [intOf]; omega
            · go_wp2
              go_ret2
              refine ⟨_, _, rfl, ⟨fun h => absurd R.out h, fun _ => .inr ⟨rfl, rfl, fun m hm => by rw [Int.toNat_natCast]; exact RO.out.none m (by omega)⟩⟩, BB.out⟩
        · have R : Hid (1 = stPre kp ki sh lo hi rate ga la (D : Int) out v x tol hold most) := hid (by simp [stPre, hc, hbd])
          have HD := hid hbd
          clear hbd
          go_enter Try.func19, Try.ntmps19
          go_wp2_with fail
          refine (ccheck_any _ _ _ _ _ _ _ _ _ _).mono ?_
          rintro e w1 ⟨rfl, hb⟩
          have C1 : Hid (Blk w1 (w.heap.size) 27 #[.int .i64 kp, .int .i64 ki, .int .i64 sh, .int .i64 lo, .int .i64 hi, .int .i64 rate, .int .i64 ga, .int .i64 la, .int .i64 ((D : Int))]) := hid (Blk.below (Blk.alloc (Blk.at_new _ (by simp)) _) hb (by simp <;> omega))
          have W1 : Hid (Blk w1 (w.heap.size + 1) 45 #[.int .i64 tol, .int .i64 hold, .int .i64 most]) := hid (Blk.below (Blk.at_new _ (by simp)) hb (by simp <;> omega))
          have B1 : Hid (Below w.heap.size w w1) := hid (Below.trans (((Below.refl _ _).alloc (by simp <;> omega) _).alloc (by simp <;> omega) _) (hb.mono (by simp <;> omega)))
          clear hb
          have cC_0 : ∀ (i : Nat), w1.cell? ⟨w.heap.size, i, none⟩ = (#[.int .i64 kp, .int .i64 ki, .int .i64 sh, .int .i64 lo, .int .i64 hi, .int .i64 rate, .int .i64 ga, .int .i64 la, .int .i64 ((D : Int))] : Array Value)[i]? := Blk.cell C1.out
          have cC_1 : ∀ (o0 : Obj) (i : Nat), (w1.alloc o0).cell? ⟨w.heap.size, i, none⟩ = (#[.int .i64 kp, .int .i64 ki, .int .i64 sh, .int .i64 lo, .int .i64 hi, .int .i64 rate, .int .i64 ga, .int .i64 la, .int .i64 ((D : Int))] : Array Value)[i]? := fun _ => Blk.cell (Blk.alloc C1.out _)
          have cW_0 : ∀ (i : Nat), w1.cell? ⟨w.heap.size + 1, i, none⟩ = (#[.int .i64 tol, .int .i64 hold, .int .i64 most] : Array Value)[i]? := Blk.cell W1.out
          have cW_1 : ∀ (o0 : Obj) (i : Nat), (w1.alloc o0).cell? ⟨w.heap.size + 1, i, none⟩ = (#[.int .i64 tol, .int .i64 hold, .int .i64 most] : Array Value)[i]? := fun _ => Blk.cell (Blk.alloc W1.out _)
          have hz := HC.out
          rw [hz]
          go_wp2_with fail
          refine (begin_ok _ _ _ _ _ _ _ _ _ _ _ _ HC.out HB.out).mono ?_
          rintro e w2 ⟨L, b, lb, lv, rfl, hp, hpg, hb⟩
          have C2 := hid (Blk.below C1.out hb (Blk.lt C1.out))
          have W2 := hid (Blk.below W1.out hb (Blk.lt W1.out))
          have B2 : Hid (Below w.heap.size w w2) := hid (Below.trans B1.out (hb.mono (Nat.le_trans B1.out.size (by simp <;> omega))))
          clear cC_0 cC_1 cW_0 cW_1
          have cC_0 : ∀ (i : Nat), w2.cell? ⟨w.heap.size, i, none⟩ = (#[.int .i64 kp, .int .i64 ki, .int .i64 sh, .int .i64 lo, .int .i64 hi, .int .i64 rate, .int .i64 ga, .int .i64 la, .int .i64 ((D : Int))] : Array Value)[i]? := Blk.cell C2.out
          have cC_1 : ∀ (o0 : Obj) (i : Nat), (w2.alloc o0).cell? ⟨w.heap.size, i, none⟩ = (#[.int .i64 kp, .int .i64 ki, .int .i64 sh, .int .i64 lo, .int .i64 hi, .int .i64 rate, .int .i64 ga, .int .i64 la, .int .i64 ((D : Int))] : Array Value)[i]? := fun _ => Blk.cell (Blk.alloc C2.out _)
          have cW_0 : ∀ (i : Nat), w2.cell? ⟨w.heap.size + 1, i, none⟩ = (#[.int .i64 tol, .int .i64 hold, .int .i64 most] : Array Value)[i]? := Blk.cell W2.out
          have cW_1 : ∀ (o0 : Obj) (i : Nat), (w2.alloc o0).cell? ⟨w.heap.size + 1, i, none⟩ = (#[.int .i64 tol, .int .i64 hold, .int .i64 most] : Array Value)[i]? := fun _ => Blk.cell (Blk.alloc W2.out _)
          have P0 : Hid (LSt w2 L b lb lv kp ki sh lo hi rate ga la D (s0 out v D)) := hid hp
          have FW : Hid (∀ j, j < w.heap.size → ¬ Fl L b lb lv j) := hid (fun j hj hf => by have h1 := hpg j hf; have h2 := B1.out.size; omega)
          have FG : Hid (∀ j, j < w.heap.size + 2 → ¬ Fl L b lb lv j) := hid (fun j hj hf => by have h1 := hpg j hf; have h2 := W1.out.lt; omega)
          clear hp hpg hb
          go_wp2_with (go_at_call 28; refine (signal_any _ _).mono ?_; rintro e v9 ⟨rfl, rfl⟩)
          all_goals first
            | (exfalso; exact HD.out (by unfold bandB; omega))
            | (go_ret2; exact st_bad R.out (by decide) B2.out)
  · have R : Hid (chkC kp ki sh lo hi rate ga la de = stPre kp ki sh lo hi rate ga la de out v x tol hold most) := hid (by simp [stPre, hc])
    have RN := hid hc
    go_enter Try.func19, Try.ntmps19
    go_wp2_with fail
    refine (ccheck_any _ _ _ _ _ _ _ _ _ _).mono ?_
    rintro e w1 ⟨rfl, hb⟩
    have C1 : Hid (Blk w1 (w.heap.size) 27 #[.int .i64 kp, .int .i64 ki, .int .i64 sh, .int .i64 lo, .int .i64 hi, .int .i64 rate, .int .i64 ga, .int .i64 la, .int .i64 de]) := hid (Blk.below (Blk.alloc (Blk.at_new _ (by simp)) _) hb (by simp <;> omega))
    have W1 : Hid (Blk w1 (w.heap.size + 1) 45 #[.int .i64 tol, .int .i64 hold, .int .i64 most]) := hid (Blk.below (Blk.at_new _ (by simp)) hb (by simp <;> omega))
    have B1 : Hid (Below w.heap.size w w1) := hid (Below.trans (((Below.refl _ _).alloc (by simp <;> omega) _).alloc (by simp <;> omega) _) (hb.mono (by simp <;> omega)))
    clear hb
    have cC_0 : ∀ (i : Nat), w1.cell? ⟨w.heap.size, i, none⟩ = (#[.int .i64 kp, .int .i64 ki, .int .i64 sh, .int .i64 lo, .int .i64 hi, .int .i64 rate, .int .i64 ga, .int .i64 la, .int .i64 de] : Array Value)[i]? := Blk.cell C1.out
    have cC_1 : ∀ (o0 : Obj) (i : Nat), (w1.alloc o0).cell? ⟨w.heap.size, i, none⟩ = (#[.int .i64 kp, .int .i64 ki, .int .i64 sh, .int .i64 lo, .int .i64 hi, .int .i64 rate, .int .i64 ga, .int .i64 la, .int .i64 de] : Array Value)[i]? := fun _ => Blk.cell (Blk.alloc C1.out _)
    have cW_0 : ∀ (i : Nat), w1.cell? ⟨w.heap.size + 1, i, none⟩ = (#[.int .i64 tol, .int .i64 hold, .int .i64 most] : Array Value)[i]? := Blk.cell W1.out
    have cW_1 : ∀ (o0 : Obj) (i : Nat), (w1.alloc o0).cell? ⟨w.heap.size + 1, i, none⟩ = (#[.int .i64 tol, .int .i64 hold, .int .i64 most] : Array Value)[i]? := fun _ => Blk.cell (Blk.alloc W1.out _)
    have hz : (chkC kp ki sh lo hi rate ga la de != 0) = true := by simpa using hc
    go_wp2
    go_ret2
    exact st_bad R.out (by first | decide | exact RN.out) B1.out
end Go.Proofs.Ytkcalkiibolceaa
