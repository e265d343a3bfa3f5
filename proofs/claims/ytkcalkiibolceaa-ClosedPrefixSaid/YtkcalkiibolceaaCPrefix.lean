/- ClosedPrefix. -/
import Derived.Test.YtkcalkiibolceaaCPlain
namespace Go.Proofs.Ytkcalkiibolceaa
open Go.RowKit

theorem zip_take : ∀ (a b : List Int) (n : Nat), (a.take n).zip (b.take n) = (a.zip b).take n
  | [], b, n => by simp
  | x :: xs, [], n => by simp
  | x :: xs, y :: ys, 0 => by simp
  | x :: xs, y :: ys, n + 1 => by simp [zip_take xs ys n]
theorem run_take (kp ki sh lo hi rate ga la de out v : Int) (a1 a2 : Option Addr) (c1 c2 N : Nat) (sets dist : List Int) (w : World) (r1 : Rds Nn w 1 a1 sets.length (ints sets)) (r2 : Rds Nn w 1 a2 dist.length (ints dist)) (h1 : N ≤ sets.length) (h2 : N ≤ dist.length) (h3 : N ≤ 1000000) :
    Calls Try.prog 16 #[.agg #[.int .i64 kp, .int .i64 ki, .int .i64 sh, .int .i64 lo, .int .i64 hi, .int .i64 rate, .int .i64 ga, .int .i64 la, .int .i64 de], .int .i64 out, .int .i64 v, .slice a1 N c1, .slice a2 N c2] w (RunPost kp ki sh lo hi rate ga la de out v (sets.take N) (dist.take N) w) := by
  have e1 : (sets.take N).length = N := by rw [List.length_take]; omega
  have e2 : (dist.take N).length = N := by rw [List.length_take]; omega
  have t1 : Rds Nn w 1 a1 (sets.take N).length (ints (sets.take N)) := by
    have := r1.take h1
    rw [Nat.mul_one] at this
    rw [e1]
    simpa [ints] using this
  have t2 : Rds Nn w 1 a2 (dist.take N).length (ints (dist.take N)) := by
    have := r2.take h2
    rw [Nat.mul_one] at this
    rw [e2]
    simpa [ints] using this
  have h := run_any kp ki sh lo hi rate ga la de out v a1 a2 c1 c2 (sets.take N) (dist.take N) w t1 t2 (by omega)
  rw [e1, e2] at h
  exact h
theorem flat_take : ∀ (rows : List (List Int)) (N : Nat), (∀ r ∈ rows, r.length = 3) → (ints rows.flatten).take (N * 3) = ints (rows.take N).flatten
  | [], N, _ => by simp [ints]
  | r :: rows, 0, _ => by simp [ints]
  | r :: rows, N + 1, h => by
    have hr := h r (by simp)
    rw [List.take_succ_cons, List.flatten_cons, List.flatten_cons, ints_append, ints_append, ← flat_take rows N (fun q hq => h q (by simp [hq])), List.take_append, List.take_of_length_le (by rw [ints_length, hr]; omega), ints_length, hr]
    congr 2
    omega
theorem same_take (a1 a2 : Option Addr) (c1 c2 N M : Nat) (ra rb : List (List Int)) (w : World) (r1 : Rds Nn w 3 a1 ra.length (ints ra.flatten)) (r2 : Rds Nn w 3 a2 M (ints rb.flatten)) (hM : rb.length = M) (t1 : ∀ r ∈ ra, r.length = 3) (h1 : N ≤ ra.length) (h2 : rb = ra.take N) (h3 : N ≤ 1000000) : Calls Try.prog 18 #[.slice a1 N c1, .slice a2 M c2] w fun e w' => e = .returned (.bool true) ∧ Below w.heap.size w w' := by
  subst hM
  have e1 : (ra.take N).length = N := by rw [List.length_take]; omega
  have q1 : Rds Nn w 3 a1 (ra.take N).length (ints (ra.take N).flatten) := by
    have := r1.take h1
    rw [flat_take _ _ t1] at this
    rw [e1]
    exact this
  have t2 : ∀ r ∈ ra.take N, r.length = 3 := fun r hr => t1 r (List.mem_of_mem_take hr)
  have h := same_any a1 a2 c1 c2 (ra.take N) rb w q1 r2 t2 (by rw [h2]; exact t2) (by omega)
  rw [e1] at h
  refine h.mono ?_
  rintro e w' ⟨rfl, hb⟩
  exact ⟨ret_b (by rw [h2]; simp), hb⟩
set_option maxRecDepth 100000 in
set_option maxHeartbeats 8000000 in
theorem closedPrefix_walk (x0 : Int) (x1 : Int) (x2 : Int) (x3 : Int) (x4 : Int) (x5 : Int) (x6 : Int) (x7 : Int) (x8 : Int) (x9 : Int) (x10 : Int) (a11 : Option Addr) (c11 : Nat) (x11 : List Int) (a12 : Option Addr) (c12 : Nat) (x12 : List Int) (x13 : Int) (w : World) (_h0 : (Lit.int .i64 x0).wf = true) (_h1 : (Lit.int .i64 x1).wf = true) (_h2 : (Lit.int .i64 x2).wf = true) (_h3 : (Lit.int .i64 x3).wf = true) (_h4 : (Lit.int .i64 x4).wf = true) (_h5 : (Lit.int .i64 x5).wf = true) (_h6 : (Lit.int .i64 x6).wf = true) (_h7 : (Lit.int .i64 x7).wf = true) (_h8 : (Lit.int .i64 x8).wf = true) (_h9 : (Lit.int .i64 x9).wf = true) (_h10 : (Lit.int .i64 x10).wf = true) (h11 : Rds Nn w 1 a11 x11.length (ints x11)) (g11 : x11.length ≤ c11 ∧ c11 ≤ maxLen ∧ (a11 = none → x11.length = 0 ∧ c11 = 0)) (_i11 : ∀ n ∈ x11, (Lit.int .i64 n).wf = true) (h12 : Rds Nn w 1 a12 x12.length (ints x12)) (g12 : x12.length ≤ c12 ∧ c12 ≤ maxLen ∧ (a12 = none → x12.length = 0 ∧ c12 = 0)) (_i12 : ∀ n ∈ x12, (Lit.int .i64 n).wf = true) (_h13 : (Lit.int .i64 x13).wf = true) :
    Calls Try.prog 8 #[.agg #[.int .i64 x0, .int .i64 x1, .int .i64 x2, .int .i64 x3, .int .i64 x4, .int .i64 x5, .int .i64 x6, .int .i64 x7, .int .i64 x8], .int .i64 x9, .int .i64 x10, .slice a11 x11.length c11, .slice a12 x12.length c12, .int .i64 x13] w fun e w' => e = .returned (.bool true) ∧ Below w.heap.size w w' := by
  obtain ⟨ga1, gb1, _⟩ := g11
  obtain ⟨ga2, gb2, _⟩ := g12
  have R1 := hid h11
  have R2 := hid h12
  clear h11 h12
  by_cases hf : x11.length ≤ 600 ∧ x12.length ≤ 600
  rotate_left
  · have hf2 : (decide (x11.length ≤ 600) && decide (x12.length ≤ 600)) = false := by simp; omega
    have HF := hid hf2
    clear hf hf2
    go_enter Try.func8, Try.ntmps8
    go_wp2_with fail
    refine (few_any _ _ _ _ _ _ _ (by omega) (by omega)).mono ?_
    rintro e v8 ⟨rfl, rfl⟩
    rw [HF.out]
    go_wp2_with (go_at_call 14; refine (awake_any _).mono ?_; rintro e v9 ⟨rfl, hb⟩)
    go_ret
    exact ⟨rfl, ((Below.refl _ _).alloc (by simp <;> omega) _).trans (hb.mono (by simp <;> omega))⟩
  obtain ⟨hf1, hf2⟩ := hf
  have hf3 : (decide (x11.length ≤ 600) && decide (x12.length ≤ 600)) = true := by simp; omega
  have HF := hid hf3
  clear hf3
  by_cases good : 0 ≤ x13 ∧ x13 ≤ x11.length ∧ x11.length = x12.length
  rotate_left
  · have hz : x13 < 0 ∨ (x11.length : Int) < x13 ∨ ((x11.length : Int) != (x12.length : Int)) = true := by
      simp only [bne_iff_ne]
      omega
    clear good
    rcases hz with hz | hz | hz
    all_goals
      go_enter Try.func8, Try.ntmps8
      go_wp2_with fail
      refine (few_any _ _ _ _ _ _ _ (by omega) (by omega)).mono ?_
      rintro e v8 ⟨rfl, rfl⟩
      rw [HF.out]
      go_wp2_with (go_at_call 14; refine (awake_any _).mono ?_; rintro e v9 ⟨rfl, hb⟩)
      all_goals first
        | (exfalso; omega)
        | (go_ret; exact ⟨rfl, ((Below.refl _ _).alloc (by simp) _).trans (hb.mono (by simp))⟩)
  obtain ⟨g0, g1, g2⟩ := good
  obtain ⟨N, rfl⟩ := Int.eq_ofNat_of_zero_le g0
  have hN : N ≤ x11.length := by omega
  have hN2 : N ≤ x12.length := by omega
  have G2 := hid g2
  have hlb : ((x11.length : Int) != (x12.length : Int)) = false := by rw [g2]; simp
  clear g2
  go_enter Try.func8, Try.ntmps8
  go_wp2_with fail
  refine (few_any _ _ _ _ _ _ _ (by omega) (by omega)).mono ?_
  rintro e v8 ⟨rfl, rfl⟩
  rw [HF.out]
  have C0 : Hid (Blk (w.alloc (.cells #[.int .i64 x0, .int .i64 x1, .int .i64 x2, .int .i64 x3, .int .i64 x4, .int .i64 x5, .int .i64 x6, .int .i64 x7, .int .i64 x8] 27)) w.heap.size 27 #[.int .i64 x0, .int .i64 x1, .int .i64 x2, .int .i64 x3, .int .i64 x4, .int .i64 x5, .int .i64 x6, .int .i64 x7, .int .i64 x8]) := hid (Blk.at_new _ rfl)
  have cC := C0.out.cell
  have B0 := hid ((Below.refl w.heap.size w).alloc (Nat.le_refl _) (.cells #[.int .i64 x0, .int .i64 x1, .int .i64 x2, .int .i64 x3, .int .i64 x4, .int .i64 x5, .int .i64 x6, .int .i64 x7, .int .i64 x8] 27))
  have Q1 := hid (R1.out.below B0.out)
  have Q2 := hid (R2.out.below B0.out)
  go_wp2_with fail
  refine (run_any x0 x1 x2 x3 x4 x5 x6 x7 x8 _ _ _ _ _ _ x11 x12 _ Q1.out Q2.out (by omega)).mono ?_
  rintro e w1 ⟨u, rfl, hu, hb⟩
  have C1 := hid (C0.out.below hb C0.out.lt)
  have B1 := hid (B0.out.trans (hb.mono B0.out.size))
  obtain ⟨A, c, rfl, hcap, _⟩ := own_form hu
  have RU := hid (Rds.own hu (S := Nn) (fun _ _ => id))
  have Q11 := hid (Q1.out.below hb)
  have Q12 := hid (Q2.out.below hb)
  clear hu hb cC
  have cC := C1.out.cell
  have RN3 := hid (rows_three x0 x1 x2 x3 x4 x5 x6 x7 x8 x9 x10 x11 x12)
  have n0 : (0 : Int) ≤ (N : Int) := by omega
  have n1 : (N : Int) ≤ (c11 : Int) := by omega
  have n2 : (N : Int) ≤ (c12 : Int) := by omega
  go_wp2_with fail
  go_region_held3 (fun w' => ∀ i, w'.cell? ⟨w.heap.size, i, none⟩ = (#[.int .i64 x0, .int .i64 x1, .int .i64 x2, .int .i64 x3, .int .i64 x4, .int .i64 x5, .int .i64 x6, .int .i64 x7, .int .i64 x8] : Array Value)[i]?) (first | exact cC | exact s2) (first
    | (go_at_call 16; refine (run_take x0 x1 x2 x3 x4 x5 x6 x7 x8 x9 x10 _ _ _ _ N x11 x12 _ (Q11.out.below ((Below.refl _ _).drew)) (Q12.out.below ((Below.refl _ _).drew)) hN hN2 (by omega)).mono ?_; rintro e w2 ⟨u2, rfl, hu, hb⟩; obtain ⟨A2, c2, rfl, _, _⟩ := own_form hu; have HB := hid ((Below.drew (Below.refl w1.heap.size w1)).trans hb); have RV := hid (Rds.own hu (S := Nn) (fun _ _ => id)); have RU2 := hid (RU.out.below HB.out); have C2 := hid (C1.out.below HB.out C1.out.lt); have B2 := hid (B1.out.trans (HB.out.mono B1.out.size)); have s2 := C2.out.cell; clear hu hb))
  clear s2 cC
  by_cases gr : runErr x0 x1 x2 x3 x4 x5 x6 x7 x8 x9 x10 x11 x12 = 0
  rotate_left
  · have hz : (runErr x0 x1 x2 x3 x4 x5 x6 x7 x8 x9 x10 x11 x12 != 0) = true := by simpa using gr
    have rl : (runRows x0 x1 x2 x3 x4 x5 x6 x7 x8 x9 x10 x11 x12).length = 0 := by unfold runRows; rw [if_neg gr]; rfl
    clear gr
    go_wp2_with (go_at_call 14; refine (awake_any _).mono ?_; rintro e v9 ⟨rfl, hb⟩)
    go_ret
    exact ⟨rfl, B2.out.trans (hb.mono B2.out.size)⟩
  obtain ⟨k1, k2, k3, k4, k5⟩ := run_ok gr
  have hzip : (x11.take N).zip (x12.take N) = (x11.zip x12).take N := zip_take _ _ _
  have gr2 : runErr x0 x1 x2 x3 x4 x5 x6 x7 x8 x9 x10 (x11.take N) (x12.take N) = 0 := run_mk k1 (by rw [List.length_take]; omega) (by rw [List.length_take, List.length_take]; omega) k4 (fun p hp => by rw [hzip] at hp; exact k5 p (List.mem_of_mem_take hp))
  have rt : runRows x0 x1 x2 x3 x4 x5 x6 x7 x8 x9 x10 (x11.take N) (x12.take N) = (runRows x0 x1 x2 x3 x4 x5 x6 x7 x8 x9 x10 x11 x12).take N := by
    rw [(rows_ok gr).1, (rows_ok gr2).1, hzip, sims_take]
  have RT := hid rt
  have ML := hid (rfl : (runRows x0 x1 x2 x3 x4 x5 x6 x7 x8 x9 x10 (x11.take N) (x12.take N)).length = (runRows x0 x1 x2 x3 x4 x5 x6 x7 x8 x9 x10 (x11.take N) (x12.take N)).length)
  have RLN := hid (rows_ok gr).2
  rw [gr, gr2]
  obtain ⟨rows, hrows⟩ : ∃ rows, runRows x0 x1 x2 x3 x4 x5 x6 x7 x8 x9 x10 x11 x12 = rows := ⟨_, rfl⟩
  obtain ⟨rows2, hrows2⟩ : ∃ rows2, runRows x0 x1 x2 x3 x4 x5 x6 x7 x8 x9 x10 (x11.take N) (x12.take N) = rows2 := ⟨_, rfl⟩
  rw [hrows] at RU2 RLN RN3 RT hcap ⊢
  rw [hrows2] at RV RT ⊢
  have rl := RLN.out
  have hNr : N ≤ rows.length := by omega
  have hNc : (N : Int) ≤ (c : Int) := by omega
  have hN0 : (0 : Int) ≤ (N : Int) := by omega
  obtain ⟨M, hM⟩ : ∃ M, rows2.length = M := ⟨_, rfl⟩
  have HM := hid hM
  rw [hM] at RV ⊢
  clear gr gr2 rt k1 k2 k3 k4 k5 hzip hrows hrows2 ML hM
  go_wp2_with fail
  refine (same_take _ _ _ _ N M rows rows2 _ RU2.out RV.out HM.out RN3.out hNr RT.out (by omega)).mono ?_
  rintro e w3 ⟨rfl, hb⟩
  have B3 := hid (B2.out.trans (hb.mono B2.out.size))
  clear hb
  go_wp2_with (go_at_call 14; refine (awake_any _).mono ?_; rintro e v9 ⟨rfl, hb⟩)
  go_ret
  exact ⟨rfl, B3.out.trans (hb.mono B3.out.size)⟩
end Go.Proofs.Ytkcalkiibolceaa
