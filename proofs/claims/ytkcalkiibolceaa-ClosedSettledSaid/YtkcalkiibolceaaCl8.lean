/- Closed loops: the reference's Settle. -/
import Derived.Test.YtkcalkiibolceaaCPlain
namespace Go.Proofs.Ytkcalkiibolceaa
open Go.RowKit

theorem zip_rep (x y : Int) : ∀ n : Nat, (List.replicate n x).zip (List.replicate n y) = List.replicate n (x, y)
  | 0 => rfl
  | n + 1 => by simp [List.replicate_succ, zip_rep x y n]
section
variable {kp ki sh lo hi rate ga la : Int}
/-- What the k-th sample of a constant simulation says. -/
theorem sims_rep (s : SS) (x : Int) (M k : Nat) (hk : k < M) : ∃ b : Int, (sims kp ki sh lo hi rate ga la s (List.replicate M (x, 0)))[k]? = some [x, b, val kp ki sh lo hi rate ga la s x (k + 1)] := by
  have h1 : (sims kp ki sh lo hi rate ga la s (List.replicate M (x, 0))).take (k + 1) = sims kp ki sh lo hi rate ga la s (List.replicate k (x, 0) ++ [(x, 0)]) := by
    rw [← sims_take, ← List.replicate_succ', List.take_replicate, Nat.min_eq_left hk]
  rw [sims_snoc] at h1
  have h2 : (sims kp ki sh lo hi rate ga la s (List.replicate M (x, 0)))[k]? = ((sims kp ki sh lo hi rate ga la s (List.replicate M (x, 0))).take (k + 1))[k]? := by
    rw [List.getElem?_take, if_pos (by omega)]
  rw [h2, h1, List.getElem?_append_right (by rw [sims_len, List.length_replicate]; exact Nat.le_refl _), sims_len, List.length_replicate, Nat.sub_self]
  refine ⟨(nx kp ki sh lo hi rate ga la (fin kp ki sh lo hi rate ga la s (List.replicate k (x, 0))) x 0).out, ?_⟩
  unfold val
  rw [List.replicate_succ', fin_snoc]
  rfl
end
def NearPost (f : Nat → Int) (x tol : Int) (H n : Nat) (w : World) : Ending → World → Prop := fun e w' => ∃ bb : Bool, e = .returned (.bool bb) ∧ (bb = true ↔ SetAt f x tol H n) ∧ Below w.heap.size w w'
theorem near_no {f : Nat → Int} {x tol : Int} {H n : Nat} {w w' : World} (h : ¬ SetAt f x tol H n) (hb : Below w.heap.size w w') : NearPost f x tol H n w (.returned (.bool false)) w' := ⟨false, rfl, ⟨(fun hf => by cases hf), fun hs => absurd hs h⟩, hb⟩
theorem near_yes {f : Nat → Int} {x tol : Int} {H n : Nat} {w w' : World} (h : SetAt f x tol H n) (hb : Below w.heap.size w w') : NearPost f x tol H n w (.returned (.bool true)) w' := ⟨true, rfl, ⟨fun _ => h, fun _ => rfl⟩, hb⟩
theorem made_own (w : World) {base : Nat} (hb : base ≤ w.heap.size) {M : Nat} (hM : M ≤ 1000000) : (w.alloc (.cells (madeCells #[.int .i64 0] M) 3)).ownsRow base 3 1 (.slice (some ⟨w.heap.size, 0, none⟩) M M) M (ints (List.replicate M 0)) := by
  have := World.ownsRow_lit (base := base) (e := 3) (size := 1) w (madeCells #[.int .i64 0] M) M hb (by unfold maxLen; omega) (by simp [madeCells])
  rw [toList_madeCells_one] at this
  simpa [ints] using this
set_option maxHeartbeats 4000000 in
theorem rnear_any (a : Option Addr) (c n H : Nat) (rows : List (List Int)) (f : Nat → Int) (x tol : Int) (w : World) (r : Rds Nn w 3 a rows.length (ints rows.flatten)) (t3 : ∀ r ∈ rows, r.length = 3) (hf : ∀ k, k < rows.length → ∃ a b : Int, rows[k]? = some [a, b, f (k + 1)]) (hn : n ≤ rows.length) (hH : H ≤ n) (hL : rows.length ≤ 600) (hx : -16777216 ≤ x ∧ x ≤ 16777216) (hv : ∀ k, -1073741824 ≤ f k ∧ f k ≤ 1073741824) :
    Calls Try.prog 40 #[.slice a rows.length c, .int .i64 n, .int .i64 H, .int .i64 x, .int .i64 tol] w (NearPost f x tol H n w) := by
  have R := hid r
  have T3 := hid t3
  have HF := hid hf
  have HV := hid hv
  have w0 : IntKind.i64.wrap ((n : Int) - (H : Int)) = ((n - H : Nat) : Int) := by rw [IntWalk.i64_in _ (by omega)]; omega
  clear r t3 hf hv
  go_enter Try.func40, Try.ntmps40
  go_wp2
  go_loopw [11] (fun i wr => ∃ k : Nat, n - H ≤ k ∧ k ≤ n ∧ i = .int .i64 k ∧ (∀ j : Nat, n - H < j → j ≤ k → nearI (f j) x tol) ∧ Below w.heap.size w wr) (fun i _ => n - (intOf i).toNat)
  case atStart => exact ⟨n - H, Nat.le_refl _, by omega, rfl, fun j h1 h2 => by omega, Below.refl _ _⟩
  case round =>
    obtain ⟨k, hk1, hk, rfl, hall, hbel⟩ := hrel
    have ALL := hid hall
    have BB := hid hbel
    clear hall hbel
    by_cases hlt : k < n
    · obtain ⟨p1, o1, rfl, hp1, _, hr1⟩ := Rds.plain R.out (by omega) (by decide)
      obtain ⟨a, b, c', hrow, _, _, hc⟩ := three_at T3.out (k := k) (by omega)
      obtain ⟨a', b', he⟩ := HF.out k (by omega)
      rw [hrow] at he
      injection he with he
      injection he with _ he
      injection he with _ he
      injection he with he _
      have e1 : wr.cell? ⟨p1, o1 + k * 3 + 2, none⟩ = some (.int .i64 c') := by
        have := hr1 _ _ hc
        rw [← World.cell?_of_block (BB.out.block _ hp1)] at this
        rw [← this, Nat.mul_comm]
        rfl
      have hvb := HV.out (k + 1)
      rw [← he] at hvb
      have HE := hid he
      have kr : k < rows.length := by omega
      clear hr1 hrow hc he
      by_cases hn1 : c' - x ≤ tol
      · by_cases hn2 : x - c' ≤ tol
        · go_wp2
          go_roundw
          case rel =>
            refine ⟨k + 1, by omega, by omega, by go_num, fun j h1 h2 => ?_, BB.out⟩
            by_cases hj : j = k + 1
            · subst hj; rw [← HE.out]; exact ⟨hn1, hn2⟩
            · exact ALL.out j h1 (by omega)
          case measure => simp [intOf]; omega
        · go_wp2
          go_ret
          exact near_no (fun hs => absurd (hs.2 (k + 1) (by omega) (by omega)).2 (by rw [← HE.out]; omega)) BB.out
      · go_wp2
        go_ret
        exact near_no (fun hs => absurd (hs.2 (k + 1) (by omega) (by omega)).1 (by rw [← HE.out]; omega)) BB.out
    · obtain rfl : k = n := by omega
      go_wp2
      go_ret
      exact near_yes ⟨by omega, fun j h1 h2 => ALL.out j (by omega) h2⟩ BB.out
theorem rrun_rep {kp ki sh lo hi rate ga la out v x : Int} {D : Nat} (a1 a2 : Option Addr) (c1 c2 M : Nat) (w : World) (r1 : Rds Nn w 1 a1 M (ints (List.replicate M x))) (r2 : Rds Nn w 1 a2 M (ints (List.replicate M 0))) (hM : M ≤ 512) (hc : chkC kp ki sh lo hi rate ga la (D : Int) = 0) (hb : okB lo hi out v = true) (hx : absB x 16777216 = true) :
    Calls Try.prog 17 #[.agg #[.int .i64 kp, .int .i64 ki, .int .i64 sh, .int .i64 lo, .int .i64 hi, .int .i64 rate, .int .i64 ga, .int .i64 la, .int .i64 ((D : Int))], .int .i64 out, .int .i64 v, .slice a1 M c1, .slice a2 M c2] w fun e w' => ∃ A c, e = .returned (.tuple #[.slice A M c, .int .i64 0]) ∧ Rds Nn w' 3 A M (ints (sims kp ki sh lo hi rate ga la (s0 out v D) (List.replicate M (x, 0))).flatten) ∧ Below w.heap.size w w' := by
  have l1 : (List.replicate M x).length = M := List.length_replicate
  have l2 : (List.replicate M (0 : Int)).length = M := List.length_replicate
  have h := rrun_any kp ki sh lo hi rate ga la (D : Int) out v a1 a2 c1 c2 (List.replicate M x) (List.replicate M 0) w (by rw [l1]; exact r1) (by rw [l2]; exact r2) (by omega)
  rw [l1, l2] at h
  have he : runErr kp ki sh lo hi rate ga la (D : Int) out v (List.replicate M x) (List.replicate M 0) = 0 := run_mk hc (by omega) (by omega) hb (fun p hp => by rw [zip_rep] at hp; have := (List.mem_replicate.1 hp).2; subst this; simp only [okP, hx, Bool.true_and]; rfl)
  have hr := rows_ok he
  rw [zip_rep, Int.toNat_natCast, l1] at hr
  refine h.mono ?_
  rintro e w' ⟨u, rfl, ho, hbel⟩
  rw [he]
  rw [hr.2, hr.1] at ho
  obtain ⟨A, c, rfl, _, _⟩ := own_form ho
  exact ⟨A, c, rfl, Rds.own ho (S := Nn) (fun _ _ => id), hbel⟩
theorem rnear_rep {kp ki sh lo hi rate ga la out v x tol : Int} {D : Nat} (a : Option Addr) (c n H M : Nat) (w : World) (r : Rds Nn w 3 a M (ints (sims kp ki sh lo hi rate ga la (s0 out v D) (List.replicate M (x, 0))).flatten)) (hn : n ≤ M) (hH : H ≤ n) (hM : M ≤ 512) (hc : chkC kp ki sh lo hi rate ga la (D : Int) = 0) (hb : okB lo hi out v = true) (hx : absB x 16777216 = true) :
    Calls Try.prog 40 #[.slice a M c, .int .i64 n, .int .i64 H, .int .i64 x, .int .i64 tol] w (NearPost (val kp ki sh lo hi rate ga la (s0 out v D) x) x tol H n w) := by
  have lr : (sims kp ki sh lo hi rate ga la (s0 out v D) (List.replicate M (x, 0))).length = M := by rw [sims_len, List.length_replicate]
  have i0 := inv0 (D := D) (la := la) hb (show 0 ≤ la by have := chkP_ok (chkC_ok hc).2.1; omega)
  have h := rnear_any a c n H (sims kp ki sh lo hi rate ga la (s0 out v D) (List.replicate M (x, 0))) (val kp ki sh lo hi rate ga la (s0 out v D) x) x tol w (by rw [lr]; exact r) (sims_three _ _) (fun k hk => by
    rw [lr] at hk
    obtain ⟨b, hb⟩ := sims_rep (kp := kp) (ki := ki) (sh := sh) (lo := lo) (hi := hi) (rate := rate) (ga := ga) (la := la) (s0 out v D) x M k hk
    exact ⟨x, b, hb⟩) (by omega) hH (by omega) (absB_true hx) (fun k => by
    have := (inv_fin hc (List.replicate k (x, 0)) (s0 out v D) i0 (fun p hp => by have := (List.mem_replicate.1 hp).2; subst this; simp only [okP, hx, Bool.true_and]; rfl)).vb (chkC_ok hc).2.1
    unfold val
    omega)
  rw [lr] at h
  exact h
set_option maxRecDepth 100000 in
set_option maxHeartbeats 8000000 in
theorem rsettle_any (kp ki sh lo hi rate ga la de out v x tol hold most : Int) (w : World) : Calls Try.prog 20 #[.agg #[.int .i64 kp, .int .i64 ki, .int .i64 sh, .int .i64 lo, .int .i64 hi, .int .i64 rate, .int .i64 ga, .int .i64 la, .int .i64 de], .int .i64 out, .int .i64 v, .int .i64 x, .agg #[.int .i64 tol, .int .i64 hold, .int .i64 most]] w (StPost kp ki sh lo hi rate ga la de out v x tol hold most w) := by
  by_cases hc : chkC kp ki sh lo hi rate ga la de = 0
  · have HC := hid hc
    obtain ⟨D, rfl⟩ := Int.eq_ofNat_of_zero_le (chkP_ok (chkC_ok hc).2.1).2.2.2.2.1
    cases hb : okB lo hi out v
    · have HB := hid hb
      have R : Hid (1 = stPre kp ki sh lo hi rate ga la (D : Int) out v x tol hold most) := hid (by simp [stPre, hc, hb])
      clear hb
      go_enter Try.func20, Try.ntmps20
      go_wp2_with fail
      refine (rccheck_any _ _ _ _ _ _ _ _ _ _).mono ?_
      rintro e w1 ⟨rfl, hb⟩
      have C1 : Hid (Blk w1 (w.heap.size) 27 #[.int .i64 kp, .int .i64 ki, .int .i64 sh, .int .i64 lo, .int .i64 hi, .int .i64 rate, .int .i64 ga, .int .i64 la, .int .i64 ((D : Int))]) := hid (Blk.below (Blk.alloc (Blk.at_new _ (by simp)) _) hb (by simp <;> omega))
      have W1 : Hid (Blk w1 (w.heap.size + 1) 42 #[.int .i64 tol, .int .i64 hold, .int .i64 most]) := hid (Blk.below (Blk.at_new _ (by simp)) hb (by simp <;> omega))
      have B1 : Hid (Below w.heap.size w w1) := hid (Below.trans (((Below.refl _ _).alloc (by simp <;> omega) _).alloc (by simp <;> omega) _) (hb.mono (by simp <;> omega)))
      clear hb
      have cC_0 : ∀ (i : Nat), w1.cell? ⟨w.heap.size, i, none⟩ = (#[.int .i64 kp, .int .i64 ki, .int .i64 sh, .int .i64 lo, .int .i64 hi, .int .i64 rate, .int .i64 ga, .int .i64 la, .int .i64 ((D : Int))] : Array Value)[i]? := Blk.cell C1.out
      have cC_1 : ∀ (o0 : Obj) (i : Nat), (w1.alloc o0).cell? ⟨w.heap.size, i, none⟩ = (#[.int .i64 kp, .int .i64 ki, .int .i64 sh, .int .i64 lo, .int .i64 hi, .int .i64 rate, .int .i64 ga, .int .i64 la, .int .i64 ((D : Int))] : Array Value)[i]? := fun _ => Blk.cell (Blk.alloc C1.out _)
      have cW_0 : ∀ (i : Nat), w1.cell? ⟨w.heap.size + 1, i, none⟩ = (#[.int .i64 tol, .int .i64 hold, .int .i64 most] : Array Value)[i]? := Blk.cell W1.out
      have cW_1 : ∀ (o0 : Obj) (i : Nat), (w1.alloc o0).cell? ⟨w.heap.size + 1, i, none⟩ = (#[.int .i64 tol, .int .i64 hold, .int .i64 most] : Array Value)[i]? := fun _ => Blk.cell (Blk.alloc W1.out _)
      have hz := HC.out
      rw [hz]
      go_wp2_with fail
      refine (begins_any _ _ _ _ _ _ _ _ _ _ _ _).mono ?_
      rintro e w2 ⟨rfl, hb⟩
      have C2 := hid (Blk.below C1.out hb (Blk.lt C1.out))
      have W2 := hid (Blk.below W1.out hb (Blk.lt W1.out))
      have B2 : Hid (Below w.heap.size w w2) := hid (Below.trans B1.out (hb.mono (Nat.le_trans B1.out.size (by simp <;> omega))))
      clear hb
      clear cC_0 cC_1 cW_0 cW_1
      have cC_0 : ∀ (i : Nat), w2.cell? ⟨w.heap.size, i, none⟩ = (#[.int .i64 kp, .int .i64 ki, .int .i64 sh, .int .i64 lo, .int .i64 hi, .int .i64 rate, .int .i64 ga, .int .i64 la, .int .i64 ((D : Int))] : Array Value)[i]? := Blk.cell C2.out
      have cC_1 : ∀ (o0 : Obj) (i : Nat), (w2.alloc o0).cell? ⟨w.heap.size, i, none⟩ = (#[.int .i64 kp, .int .i64 ki, .int .i64 sh, .int .i64 lo, .int .i64 hi, .int .i64 rate, .int .i64 ga, .int .i64 la, .int .i64 ((D : Int))] : Array Value)[i]? := fun _ => Blk.cell (Blk.alloc C2.out _)
      have cW_0 : ∀ (i : Nat), w2.cell? ⟨w.heap.size + 1, i, none⟩ = (#[.int .i64 tol, .int .i64 hold, .int .i64 most] : Array Value)[i]? := Blk.cell W2.out
      have cW_1 : ∀ (o0 : Obj) (i : Nat), (w2.alloc o0).cell? ⟨w.heap.size + 1, i, none⟩ = (#[.int .i64 tol, .int .i64 hold, .int .i64 most] : Array Value)[i]? := fun _ => Blk.cell (Blk.alloc W2.out _)
      rw [HB.out]
      go_wp2
      go_ret2
      exact st_bad R.out (by first | decide | exact RN.out) B2.out
    · have HB := hid hb
      clear hb
      cases hs : absB x 16777216
      · have R : Hid (1 = stPre kp ki sh lo hi rate ga la (D : Int) out v x tol hold most) := hid (by simp [stPre, hc, hs])
        go_enter Try.func20, Try.ntmps20
        go_wp2_with fail
        refine (rccheck_any _ _ _ _ _ _ _ _ _ _).mono ?_
        rintro e w1 ⟨rfl, hb⟩
        have C1 : Hid (Blk w1 (w.heap.size) 27 #[.int .i64 kp, .int .i64 ki, .int .i64 sh, .int .i64 lo, .int .i64 hi, .int .i64 rate, .int .i64 ga, .int .i64 la, .int .i64 ((D : Int))]) := hid (Blk.below (Blk.alloc (Blk.at_new _ (by simp)) _) hb (by simp <;> omega))
        have W1 : Hid (Blk w1 (w.heap.size + 1) 42 #[.int .i64 tol, .int .i64 hold, .int .i64 most]) := hid (Blk.below (Blk.at_new _ (by simp)) hb (by simp <;> omega))
        have B1 : Hid (Below w.heap.size w w1) := hid (Below.trans (((Below.refl _ _).alloc (by simp <;> omega) _).alloc (by simp <;> omega) _) (hb.mono (by simp <;> omega)))
        clear hb
        have cC_0 : ∀ (i : Nat), w1.cell? ⟨w.heap.size, i, none⟩ = (#[.int .i64 kp, .int .i64 ki, .int .i64 sh, .int .i64 lo, .int .i64 hi, .int .i64 rate, .int .i64 ga, .int .i64 la, .int .i64 ((D : Int))] : Array Value)[i]? := Blk.cell C1.out
        have cC_1 : ∀ (o0 : Obj) (i : Nat), (w1.alloc o0).cell? ⟨w.heap.size, i, none⟩ = (#[.int .i64 kp, .int .i64 ki, .int .i64 sh, .int .i64 lo, .int .i64 hi, .int .i64 rate, .int .i64 ga, .int .i64 la, .int .i64 ((D : Int))] : Array Value)[i]? := fun _ => Blk.cell (Blk.alloc C1.out _)
        have cW_0 : ∀ (i : Nat), w1.cell? ⟨w.heap.size + 1, i, none⟩ = (#[.int .i64 tol, .int .i64 hold, .int .i64 most] : Array Value)[i]? := Blk.cell W1.out
        have cW_1 : ∀ (o0 : Obj) (i : Nat), (w1.alloc o0).cell? ⟨w.heap.size + 1, i, none⟩ = (#[.int .i64 tol, .int .i64 hold, .int .i64 most] : Array Value)[i]? := fun _ => Blk.cell (Blk.alloc W1.out _)
        have hz := HC.out
        rw [hz]
        go_wp2_with fail
        refine (begins_any _ _ _ _ _ _ _ _ _ _ _ _).mono ?_
        rintro e w2 ⟨rfl, hb⟩
        have C2 := hid (Blk.below C1.out hb (Blk.lt C1.out))
        have W2 := hid (Blk.below W1.out hb (Blk.lt W1.out))
        have B2 : Hid (Below w.heap.size w w2) := hid (Below.trans B1.out (hb.mono (Nat.le_trans B1.out.size (by simp <;> omega))))
        clear hb
        clear cC_0 cC_1 cW_0 cW_1
        have cC_0 : ∀ (i : Nat), w2.cell? ⟨w.heap.size, i, none⟩ = (#[.int .i64 kp, .int .i64 ki, .int .i64 sh, .int .i64 lo, .int .i64 hi, .int .i64 rate, .int .i64 ga, .int .i64 la, .int .i64 ((D : Int))] : Array Value)[i]? := Blk.cell C2.out
        have cC_1 : ∀ (o0 : Obj) (i : Nat), (w2.alloc o0).cell? ⟨w.heap.size, i, none⟩ = (#[.int .i64 kp, .int .i64 ki, .int .i64 sh, .int .i64 lo, .int .i64 hi, .int .i64 rate, .int .i64 ga, .int .i64 la, .int .i64 ((D : Int))] : Array Value)[i]? := fun _ => Blk.cell (Blk.alloc C2.out _)
        have cW_0 : ∀ (i : Nat), w2.cell? ⟨w.heap.size + 1, i, none⟩ = (#[.int .i64 tol, .int .i64 hold, .int .i64 most] : Array Value)[i]? := Blk.cell W2.out
        have cW_1 : ∀ (o0 : Obj) (i : Nat), (w2.alloc o0).cell? ⟨w.heap.size + 1, i, none⟩ = (#[.int .i64 tol, .int .i64 hold, .int .i64 most] : Array Value)[i]? := fun _ => Blk.cell (Blk.alloc W2.out _)
        rw [HB.out]
        go_wp2_with (go_at_call 31; refine (rsignal_any _ _).mono ?_; rintro e v9 ⟨rfl, rfl⟩)
        go_ret2
        exact st_bad R.out (by first | decide | exact RN.out) B2.out
      · have HS := hid hs
        by_cases hbd : bandB tol hold most
        · have HD := hid hbd
          obtain ⟨d1, d2, d3, d4, d5, d6⟩ := hbd
          obtain ⟨M, rfl⟩ := Int.eq_ofNat_of_zero_le d5
          obtain ⟨H, rfl⟩ := Int.eq_ofNat_of_zero_le (show 0 ≤ hold by omega)
          have hmk := run_make_row' (P := Try.prog) 34 3 (.int .i64 0) 8 Try.underlying34 info3 rfl .i64 .i64 M (by omega) (by omega)
          go_enter Try.func20, Try.ntmps20
          go_wp2_with fail
          refine (rccheck_any _ _ _ _ _ _ _ _ _ _).mono ?_
          rintro e w1 ⟨rfl, hb⟩
          have C1 : Hid (Blk w1 (w.heap.size) 27 #[.int .i64 kp, .int .i64 ki, .int .i64 sh, .int .i64 lo, .int .i64 hi, .int .i64 rate, .int .i64 ga, .int .i64 la, .int .i64 ((D : Int))]) := hid (Blk.below (Blk.alloc (Blk.at_new _ (by simp)) _) hb (by simp <;> omega))
          have W1 : Hid (Blk w1 (w.heap.size + 1) 42 #[.int .i64 tol, .int .i64 (H : Int), .int .i64 (M : Int)]) := hid (Blk.below (Blk.at_new _ (by simp)) hb (by simp <;> omega))
          have B1 : Hid (Below w.heap.size w w1) := hid (Below.trans (((Below.refl _ _).alloc (by simp <;> omega) _).alloc (by simp <;> omega) _) (hb.mono (by simp <;> omega)))
          clear hb
          have cC_0 : ∀ (i : Nat), w1.cell? ⟨w.heap.size, i, none⟩ = (#[.int .i64 kp, .int .i64 ki, .int .i64 sh, .int .i64 lo, .int .i64 hi, .int .i64 rate, .int .i64 ga, .int .i64 la, .int .i64 ((D : Int))] : Array Value)[i]? := Blk.cell C1.out
          have cC_1 : ∀ (o0 : Obj) (i : Nat), (w1.alloc o0).cell? ⟨w.heap.size, i, none⟩ = (#[.int .i64 kp, .int .i64 ki, .int .i64 sh, .int .i64 lo, .int .i64 hi, .int .i64 rate, .int .i64 ga, .int .i64 la, .int .i64 ((D : Int))] : Array Value)[i]? := fun _ => Blk.cell (Blk.alloc C1.out _)
          have cW_0 : ∀ (i : Nat), w1.cell? ⟨w.heap.size + 1, i, none⟩ = (#[.int .i64 tol, .int .i64 (H : Int), .int .i64 (M : Int)] : Array Value)[i]? := Blk.cell W1.out
          have cW_1 : ∀ (o0 : Obj) (i : Nat), (w1.alloc o0).cell? ⟨w.heap.size + 1, i, none⟩ = (#[.int .i64 tol, .int .i64 (H : Int), .int .i64 (M : Int)] : Array Value)[i]? := fun _ => Blk.cell (Blk.alloc W1.out _)
          have hz := HC.out
          rw [hz]
          go_wp2_with fail
          refine (begins_any _ _ _ _ _ _ _ _ _ _ _ _).mono ?_
          rintro e w2 ⟨rfl, hb⟩
          have C2 := hid (Blk.below C1.out hb (Blk.lt C1.out))
          have W2 := hid (Blk.below W1.out hb (Blk.lt W1.out))
          have B2 : Hid (Below w.heap.size w w2) := hid (Below.trans B1.out (hb.mono (Nat.le_trans B1.out.size (by simp <;> omega))))
          clear hb
          clear cC_0 cC_1 cW_0 cW_1
          have cC_0 : ∀ (i : Nat), w2.cell? ⟨w.heap.size, i, none⟩ = (#[.int .i64 kp, .int .i64 ki, .int .i64 sh, .int .i64 lo, .int .i64 hi, .int .i64 rate, .int .i64 ga, .int .i64 la, .int .i64 ((D : Int))] : Array Value)[i]? := Blk.cell C2.out
          have cC_1 : ∀ (o0 : Obj) (i : Nat), (w2.alloc o0).cell? ⟨w.heap.size, i, none⟩ = (#[.int .i64 kp, .int .i64 ki, .int .i64 sh, .int .i64 lo, .int .i64 hi, .int .i64 rate, .int .i64 ga, .int .i64 la, .int .i64 ((D : Int))] : Array Value)[i]? := fun _ => Blk.cell (Blk.alloc C2.out _)
          have cW_0 : ∀ (i : Nat), w2.cell? ⟨w.heap.size + 1, i, none⟩ = (#[.int .i64 tol, .int .i64 (H : Int), .int .i64 (M : Int)] : Array Value)[i]? := Blk.cell W2.out
          have cW_1 : ∀ (o0 : Obj) (i : Nat), (w2.alloc o0).cell? ⟨w.heap.size + 1, i, none⟩ = (#[.int .i64 tol, .int .i64 (H : Int), .int .i64 (M : Int)] : Array Value)[i]? := fun _ => Blk.cell (Blk.alloc W2.out _)
          rw [HB.out]
          go_wp2_with (go_at_call 31; refine (rsignal_any _ _).mono ?_; rintro e v9 ⟨rfl, rfl⟩)
          have W2' : Hid (Blk w2 (w.heap.size + 1) 42 #[.int .i64 tol, .int .i64 (H : Int), .int .i64 (M : Int)]) := W2
          have cW := W2'.out.cell
          have O1 : ((w2.alloc (.cells (madeCells #[.int .i64 0] M) 3)).alloc (.cells (madeCells #[.int .i64 0] M) 3)).drew.ownsRow w2.heap.size 3 1 (.slice (some ⟨w2.heap.size, 0, none⟩) M M) M (ints (List.replicate M 0)) := own_keep (made_own w2 (Nat.le_refl _) (by omega)) (((Chg.refl Nn _).alloc _).drew) (fun _ _ => id)
          have O2 : ((w2.alloc (.cells (madeCells #[.int .i64 0] M) 3)).alloc (.cells (madeCells #[.int .i64 0] M) 3)).drew.ownsRow w2.heap.size 3 1 (.slice (some ⟨w2.heap.size + 1, 0, none⟩) M M) M (ints (List.replicate M 0)) := own_keep (by simpa using made_own (w2.alloc (.cells (madeCells #[.int .i64 0] M) 3)) (base := w2.heap.size) (by simp) (M := M) (by omega)) ((Chg.refl Nn _).drew) (fun _ _ => id)
          have OB : Below w2.heap.size w2 ((w2.alloc (.cells (madeCells #[.int .i64 0] M) 3)).alloc (.cells (madeCells #[.int .i64 0] M) 3)).drew := Below.drew (Below.alloc (Below.alloc (Below.refl _ _) (Nat.le_refl _) _) (by simp) _)
          go_cut [13, 14] (fun v13 v14 wx => ∃ g1 g2 : Nat, v13 = .slice (some ⟨g1, 0, none⟩) M M ∧ v14 = .slice (some ⟨g2, 0, none⟩) M M ∧ g1 ≠ g2 ∧ wx.ownsRow w2.heap.size 3 1 (.slice (some ⟨g1, 0, none⟩) M M) M (ints (List.replicate M 0)) ∧ wx.ownsRow w2.heap.size 3 1 (.slice (some ⟨g2, 0, none⟩) M M) M (ints (List.replicate M 0)) ∧ Below w2.heap.size w2 wx)
          case first =>
            go_region_held3 (fun w' => ∀ i, w'.cell? ⟨w.heap.size + 1, i, none⟩ = (#[.int .i64 tol, .int .i64 (H : Int), .int .i64 (M : Int)] : Array Value)[i]?) (first | exact cW | exact (Blk.alloc (Blk.drew W2'.out) _).cell | exact (Blk.alloc (Blk.alloc (Blk.drew W2'.out) _) _).cell) (fail)
            all_goals go_wp2_with fail
            all_goals go_meet
            all_goals first | exact ⟨_, _, rfl, rfl, by omega, O1, O2, OB⟩ | exact ⟨_, _, rfl, rfl, by omega, O2, O1, OB⟩
          case rest =>
            obtain ⟨g1, g2, rfl, rfl, hne, ho1, ho2, hbel⟩ := hcut
            have W3 := hid (W2'.out.below hbel W2'.out.lt)
            have C3 := hid (C2.out.below hbel C2.out.lt)
            have O1' := hid ho1
            have O2' := hid ho2
            have BL := hid hbel
            clear ho1 ho2 hbel O1 O2 OB cW
            go_wp2
            go_loopw [15] (fun i wr => ∃ k : Nat, k ≤ M ∧ i = .int .i64 k ∧ wr.ownsRow w2.heap.size 3 1 (.slice (some ⟨g1, 0, none⟩) M M) M (ints (List.replicate k x ++ List.replicate (M - k) 0)) ∧ wr.ownsRow w2.heap.size 3 1 (.slice (some ⟨g2, 0, none⟩) M M) M (ints (List.replicate M 0)) ∧ Below w2.heap.size w2 wr) (fun i _ => M - (intOf i).toNat)
            case atStart => exact ⟨0, Nat.zero_le _, rfl, by simpa using O1'.out, O2'.out, BL.out⟩
            case round =>
              obtain ⟨k, hk, rfl, hown, ho2, hbel⟩ := hrel
              have hst := hown.stored k (.int .i64 x)
              have hfz := hown.frozenAt k
              have hcl : k < M → ∃ v, wr.cell? ⟨g1, k, none⟩ = some v := by
                intro h
                rw [hown.cellAt k (by omega), ints_get]
                exact ⟨_, by rw [List.getElem?_eq_getElem (by simp; omega)]; rfl⟩
              have cW := (W2'.out.below hbel W2'.out.lt).cell
              have BB := hid hbel
              have OO := hid ho2
              have HO := hid hown
              have NE := hid hne
              clear hbel ho2 hown
              by_cases hlt : k < M
              · obtain ⟨u, hcl⟩ := hcl hlt
                rw [rep_set M k x hlt] at hst
                have HS := hid hst
                have G2 := hid (own_keep OO.out ((Chg.refl (fun j => j = g1) wr).setCell (a := ⟨g1, k, none⟩) (.inl rfl) (.int .i64 x)) (fun g hg e => by simp [Value.ownBlock] at hg; omega))
                have G1 : w2.heap.size ≤ g1 := (own_blk HO.out g1 rfl).1
                clear hst
                go_wp2
                go_roundw
                case rel => exact ⟨k + 1, by omega, by go_num, HS.out.1, G2.out, BB.out.setCell (by exact G1) _⟩
                case measure => simp [intOf]; omega
              · obtain rfl : k = M := by omega
                clear hst hcl hfz
                have h1 : wr.ownsRow w2.heap.size 3 1 (.slice (some ⟨g1, 0, none⟩) k k) k (ints (List.replicate k x)) := by simpa using HO.out
                have D1 := hid (Rds.own h1 (S := Nn) (fun _ _ => id))
                have D2 := hid (Rds.own OO.out (S := Nn) (fun _ _ => id))
                have BW := hid (B2.out.trans (BB.out.mono B2.out.size))
                have C5 := hid (C2.out.below BB.out C2.out.lt)
                have W5 := hid (W2'.out.below BB.out W2'.out.lt)
                have R : Hid (stPre kp ki sh lo hi rate ga la (D : Int) out v x tol (H : Int) (k : Int) = 0) := hid (by simp [stPre, HC.out, HB.out, HS.out, HD.out])
                clear h1
                have cC := C5.out.cell
                go_wp2_with fail
                refine (rrun_rep _ _ _ _ _ _ D1.out D2.out (by omega) HC.out HB.out HS.out).mono ?_
                rintro e w6 ⟨A, c, rfl, hr, hb⟩
                have RW := hid hr
                have W6 := hid (W5.out.below hb W5.out.lt)
                have B6 := hid (BW.out.trans (hb.mono BW.out.size))
                clear hr hb cC cW
                have xb := absB_true HS.out
                have cW := W6.out.cell
                go_wp2
                go_loopw [18] (fun i wr => ∃ n : Nat, H ≤ n ∧ i = .int .i64 n ∧ (∀ m, m < n → ¬ SetAt (val kp ki sh lo hi rate ga la (s0 out v D) x) x tol (H : Int) m) ∧ Blk wr (w.heap.size + 1) 42 #[.int .i64 tol, .int .i64 (H : Int), .int .i64 (k : Int)] ∧ Rds Nn wr 3 A k (ints (sims kp ki sh lo hi rate ga la (s0 out v D) (List.replicate k (x, 0))).flatten) ∧ Below w.heap.size w wr) (fun i _ => k + 1 - (intOf i).toNat)
                case atStart => exact ⟨H, Nat.le_refl _, rfl, fun m hm hs => by have := hs.1; omega, W6.out, RW.out, B6.out⟩
                case round =>
                  obtain ⟨n, hn, rfl, hall, hW, hR, hbel⟩ := hrel
                  have ALL := hid hall
                  have WW := hid hW
                  have RR := hid hR
                  have BX := hid hbel
                  have cW := hW.cell
                  clear hall hW hR hbel
                  by_cases hle : n ≤ k
                  · go_wp2_with fail
                    refine (rnear_rep _ _ _ _ _ _ RR.out hle hn (by omega) HC.out HB.out HS.out).mono ?_
                    rintro e w7 ⟨bb, rfl, hbb, hb⟩
                    have HBB := hid hbb
                    have W7 := hid (WW.out.below hb WW.out.lt)
                    have R7 := hid (RR.out.below hb)
                    have B7 := hid (BX.out.trans (hb.mono BX.out.size))
                    clear hbb hb cW
                    cases bb
                    · go_wp2
                      go_roundw
                      case rel =>
                        refine ⟨n + 1, by omega, by go_num, fun m hm => ?_, W7.out, R7.out, B7.out⟩
                        by_cases hmn : m = n
                        · subst hmn; exact fun hs => by have := HBB.out.2 hs; cases this
                        · exact ALL.out m (by omega)
                      case measure => simp [intOf]; omega
                    · have HS2 := hid (HBB.out.1 rfl)
                      go_wp2
                      go_ret2
                      exact ⟨_, _, rfl, ⟨fun h => absurd R.out h, fun _ => .inl ⟨n, rfl, rfl, by omega, by omega, by rw [Int.toNat_natCast]; exact HS2.out, fun m hm => by rw [Int.toNat_natCast]; exact ALL.out m hm⟩⟩, B7.out⟩
                  · go_wp2
                    go_ret2
                    exact ⟨_, _, rfl, ⟨fun h => absurd R.out h, fun _ => .inr ⟨rfl, rfl, fun m hm => by rw [Int.toNat_natCast]; exact ALL.out m (by omega)⟩⟩, BX.out⟩
        · have R : Hid (1 = stPre kp ki sh lo hi rate ga la (D : Int) out v x tol hold most) := hid (by simp [stPre, hc, hbd])
          have HD := hid hbd
          clear hbd
          go_enter Try.func20, Try.ntmps20
          go_wp2_with fail
          refine (rccheck_any _ _ _ _ _ _ _ _ _ _).mono ?_
          rintro e w1 ⟨rfl, hb⟩
          have C1 : Hid (Blk w1 (w.heap.size) 27 #[.int .i64 kp, .int .i64 ki, .int .i64 sh, .int .i64 lo, .int .i64 hi, .int .i64 rate, .int .i64 ga, .int .i64 la, .int .i64 ((D : Int))]) := hid (Blk.below (Blk.alloc (Blk.at_new _ (by simp)) _) hb (by simp <;> omega))
          have W1 : Hid (Blk w1 (w.heap.size + 1) 42 #[.int .i64 tol, .int .i64 hold, .int .i64 most]) := hid (Blk.below (Blk.at_new _ (by simp)) hb (by simp <;> omega))
          have B1 : Hid (Below w.heap.size w w1) := hid (Below.trans (((Below.refl _ _).alloc (by simp <;> omega) _).alloc (by simp <;> omega) _) (hb.mono (by simp <;> omega)))
          clear hb
          have cC_0 : ∀ (i : Nat), w1.cell? ⟨w.heap.size, i, none⟩ = (#[.int .i64 kp, .int .i64 ki, .int .i64 sh, .int .i64 lo, .int .i64 hi, .int .i64 rate, .int .i64 ga, .int .i64 la, .int .i64 ((D : Int))] : Array Value)[i]? := Blk.cell C1.out
          have cC_1 : ∀ (o0 : Obj) (i : Nat), (w1.alloc o0).cell? ⟨w.heap.size, i, none⟩ = (#[.int .i64 kp, .int .i64 ki, .int .i64 sh, .int .i64 lo, .int .i64 hi, .int .i64 rate, .int .i64 ga, .int .i64 la, .int .i64 ((D : Int))] : Array Value)[i]? := fun _ => Blk.cell (Blk.alloc C1.out _)
          have cW_0 : ∀ (i : Nat), w1.cell? ⟨w.heap.size + 1, i, none⟩ = (#[.int .i64 tol, .int .i64 hold, .int .i64 most] : Array Value)[i]? := Blk.cell W1.out
          have cW_1 : ∀ (o0 : Obj) (i : Nat), (w1.alloc o0).cell? ⟨w.heap.size + 1, i, none⟩ = (#[.int .i64 tol, .int .i64 hold, .int .i64 most] : Array Value)[i]? := fun _ => Blk.cell (Blk.alloc W1.out _)
          have hz := HC.out
          rw [hz]
          go_wp2_with fail
          refine (begins_any _ _ _ _ _ _ _ _ _ _ _ _).mono ?_
          rintro e w2 ⟨rfl, hb⟩
          have C2 := hid (Blk.below C1.out hb (Blk.lt C1.out))
          have W2 := hid (Blk.below W1.out hb (Blk.lt W1.out))
          have B2 : Hid (Below w.heap.size w w2) := hid (Below.trans B1.out (hb.mono (Nat.le_trans B1.out.size (by simp <;> omega))))
          clear hb
          clear cC_0 cC_1 cW_0 cW_1
          have cC_0 : ∀ (i : Nat), w2.cell? ⟨w.heap.size, i, none⟩ = (#[.int .i64 kp, .int .i64 ki, .int .i64 sh, .int .i64 lo, .int .i64 hi, .int .i64 rate, .int .i64 ga, .int .i64 la, .int .i64 ((D : Int))] : Array Value)[i]? := Blk.cell C2.out
          have cC_1 : ∀ (o0 : Obj) (i : Nat), (w2.alloc o0).cell? ⟨w.heap.size, i, none⟩ = (#[.int .i64 kp, .int .i64 ki, .int .i64 sh, .int .i64 lo, .int .i64 hi, .int .i64 rate, .int .i64 ga, .int .i64 la, .int .i64 ((D : Int))] : Array Value)[i]? := fun _ => Blk.cell (Blk.alloc C2.out _)
          have cW_0 : ∀ (i : Nat), w2.cell? ⟨w.heap.size + 1, i, none⟩ = (#[.int .i64 tol, .int .i64 hold, .int .i64 most] : Array Value)[i]? := Blk.cell W2.out
          have cW_1 : ∀ (o0 : Obj) (i : Nat), (w2.alloc o0).cell? ⟨w.heap.size + 1, i, none⟩ = (#[.int .i64 tol, .int .i64 hold, .int .i64 most] : Array Value)[i]? := fun _ => Blk.cell (Blk.alloc W2.out _)
          rw [HB.out]
          go_wp2_with (go_at_call 31; refine (rsignal_any _ _).mono ?_; rintro e v9 ⟨rfl, rfl⟩)
          all_goals first
            | (exfalso; exact HD.out (by unfold bandB; omega))
            | (go_ret2; exact st_bad R.out (by decide) B2.out)
  · have R : Hid (chkC kp ki sh lo hi rate ga la de = stPre kp ki sh lo hi rate ga la de out v x tol hold most) := hid (by simp [stPre, hc])
    have RN := hid hc
    go_enter Try.func20, Try.ntmps20
    go_wp2_with fail
    refine (rccheck_any _ _ _ _ _ _ _ _ _ _).mono ?_
    rintro e w1 ⟨rfl, hb⟩
    have C1 : Hid (Blk w1 (w.heap.size) 27 #[.int .i64 kp, .int .i64 ki, .int .i64 sh, .int .i64 lo, .int .i64 hi, .int .i64 rate, .int .i64 ga, .int .i64 la, .int .i64 de]) := hid (Blk.below (Blk.alloc (Blk.at_new _ (by simp)) _) hb (by simp <;> omega))
    have W1 : Hid (Blk w1 (w.heap.size + 1) 42 #[.int .i64 tol, .int .i64 hold, .int .i64 most]) := hid (Blk.below (Blk.at_new _ (by simp)) hb (by simp <;> omega))
    have B1 : Hid (Below w.heap.size w w1) := hid (Below.trans (((Below.refl _ _).alloc (by simp <;> omega) _).alloc (by simp <;> omega) _) (hb.mono (by simp <;> omega)))
    clear hb
    have cC_0 : ∀ (i : Nat), w1.cell? ⟨w.heap.size, i, none⟩ = (#[.int .i64 kp, .int .i64 ki, .int .i64 sh, .int .i64 lo, .int .i64 hi, .int .i64 rate, .int .i64 ga, .int .i64 la, .int .i64 de] : Array Value)[i]? := Blk.cell C1.out
    have cC_1 : ∀ (o0 : Obj) (i : Nat), (w1.alloc o0).cell? ⟨w.heap.size, i, none⟩ = (#[.int .i64 kp, .int .i64 ki, .int .i64 sh, .int .i64 lo, .int .i64 hi, .int .i64 rate, .int .i64 ga, .int .i64 la, .int .i64 de] : Array Value)[i]? := fun _ => Blk.cell (Blk.alloc C1.out _)
    have cW_0 : ∀ (i : Nat), w1.cell? ⟨w.heap.size + 1, i, none⟩ = (#[.int .i64 tol, .int .i64 hold, .int .i64 most] : Array Value)[i]? := Blk.cell W1.out
    have cW_1 : ∀ (o0 : Obj) (i : Nat), (w1.alloc o0).cell? ⟨w.heap.size + 1, i, none⟩ = (#[.int .i64 tol, .int .i64 hold, .int .i64 most] : Array Value)[i]? := fun _ => Blk.cell (Blk.alloc W1.out _)
    have hz : (chkC kp ki sh lo hi rate ga la de != 0) = true := by simpa using hc
    go_wp2
    go_ret2
    exact st_bad R.out (by first | decide | exact RN.out) B1.out
end Go.Proofs.Ytkcalkiibolceaa
