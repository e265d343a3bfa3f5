/- Chapter 26: what the laws share. -/
import Derived.Test.YtiphcdjfmihliaaPStep
import Derived.Test.YtiphcdjfmihliaaRState
import Derived.Test.YtiphcdjfmihliaaRRest
namespace Go.Proofs.Ytiphcdjfmihliaa
open Go.RowKit

theorem mid {v t l : Int} (h : 1 ≤ l) : (v ≤ t → v ≤ v + (t - v) / l ∧ v + (t - v) / l ≤ t) ∧ (t ≤ v → t ≤ v + (t - v) / l ∧ v + (t - v) / l ≤ v) := by
  constructor
  · intro hv
    have h1 := Int.ediv_nonneg (show 0 ≤ t - v by omega) (show 0 ≤ l by omega)
    have h2 := Int.ediv_le_self l (show 0 ≤ t - v by omega)
    omega
  · intro hv
    have h1 : t - v ≤ (t - v) / l := by
      rw [Int.le_ediv_iff_mul_le (by omega)]
      have := Int.mul_le_mul_of_nonpos_left (show t - v ≤ 0 by omega) h
      rw [Int.mul_one] at this
      exact this
    have h2 : (t - v) / l < 1 := Int.ediv_lt_of_lt_mul (by omega) (by omega)
    omega
theorem pv_bd {ga la de v o d : Int} {xs : List Int} {k : Nat} (hc : chkP ga la de = 0) (hx : OkL xs) (hv : -(1073741824 + 65537 * (k : Int)) ≤ v ∧ v ≤ 1073741824 + 65537 * (k : Int)) : -(1073741824 + 65537 * ((k + 1 : Nat) : Int)) ≤ pV ga la v xs o d ∧ pV ga la v xs o d ≤ 1073741824 + 65537 * ((k + 1 : Nat) : Int) := by
  obtain ⟨b1, b2, b3, b4, b5, b6⟩ := chkP_ok hc
  unfold pV
  split
  · rename_i he
    have hb : (absB o 16777216 && absB d 65536) = true := by
      unfold pErr at he
      split at he
      · assumption
      · cases he
    simp only [Bool.and_eq_true] at hb
    have h1 := okl_out hx hb.1
    have h2 := absB_true hb.2
    have ht := tgt_bd (n := outOf xs o) b1 b2 (by omega) (by omega)
    have hm := mid (v := v) (t := tgt ga (outOf xs o)) b3
    rcases Int.le_total v (tgt ga (outOf xs o)) with h | h
    · have := hm.1 h; omega
    · have := hm.2 h; omega
  · omega
theorem okl_push {xs : List Int} {o d : Int} (h : OkL xs) : OkL (pXs xs o d) := by
  unfold pXs
  split
  · rename_i he
    have hb : (absB o 16777216 && absB d 65536) = true := by
      unfold pErr at he
      split at he
      · assumption
      · cases he
    simp only [Bool.and_eq_true] at hb
    have h1 := absB_true hb.1
    intro n hn
    have : n ∈ xs ++ [o] := List.mem_of_mem_tail hn
    rcases List.mem_append.1 this with h2 | h2
    · exact h n h2
    · simp at h2; subst h2; exact h1
  · exact h
theorem pxs_len {xs : List Int} {o d : Int} : (pXs xs o d).length = xs.length := by
  unfold pXs
  split
  · simp [pushOf]
  · rfl
theorem okl_rep {n : Int} {k : Nat} (h : absB n 16777216 = true) : OkL (List.replicate k n) := by
  have := absB_true h
  intro m hm
  have := (List.mem_replicate.1 hm).2
  omega
theorem perr_cases (o d : Int) : (pErr o d = 0 ∧ absB o 16777216 = true ∧ absB d 65536 = true) ∨ pErr o d = 1 := by
  unfold pErr
  split
  · rename_i h
    simp only [Bool.and_eq_true] at h
    exact .inl ⟨rfl, h⟩
  · exact .inr rfl
/-- One step, whatever is given. -/
theorem pstep_any {b lb : Nat} {ga la de v : Int} {lv : Value} {xs : List Int} (o d : Int) (w : World) (h : PSt w b ga la de v lb lv xs) (hc : chkP ga la de = 0) (hl : xs.length ≤ 1000) (hx : OkL xs) (hv : -1125899906842624 ≤ v ∧ v ≤ 1125899906842624) :
    Calls Try.prog 19 #[.pointer (some ⟨b, 0, none⟩), .int .i64 o, .int .i64 d] w fun e w' => e = .returned (.tuple #[.int .i64 (pR ga la v xs o d), .int .i64 (pErr o d)]) ∧ PSt w' b ga la de (pV ga la v xs o d) lb lv (pXs xs o d) ∧ Chg (Fs b lb lv) w w' := by
  rcases perr_cases o d with ⟨he, h1, h2⟩ | he
  · refine (pstep_ok o d w h hc hl hx hv h1 h2).mono ?_
    intro e w' hh
    simp only [pR, pV, pXs, he, if_pos]
    exact hh
  · refine (pstep_bad (b := b) o d w he).mono ?_
    rintro e w' ⟨rfl, rfl⟩
    simp only [pR, pV, pXs, he]
    exact ⟨by trivial, h, Chg.refl _ _⟩
theorem rstep_list {xs : List Int} {o : Int} : ∀ pre : List Int, pre ++ xs ++ [o] = (pre ++ [outOf xs o]) ++ pushOf xs o := by
  intro pre
  rcases xs with _ | ⟨x, xs⟩ <;> simp [outOf, pushOf]
theorem rsstep_any {b : Nat} {ga la v : Int} {lv : Value} {pre xs : List Int} {D : Nat} (o d : Int) (w : World) (hD : xs.length = D) (h : RSt w b ga la (D : Int) v lv (pre ++ xs)) (hc : chkP ga la (D : Int) = 0) (hl : pre.length ≤ 1000) (hx : OkL xs) (hv : -1125899906842624 ≤ v ∧ v ≤ 1125899906842624) :
    Calls Try.prog 20 #[.pointer (some ⟨b, 0, none⟩), .int .i64 o, .int .i64 d] w fun e w' => ∃ lv' pre', e = .returned (.tuple #[.int .i64 (pR ga la v xs o d), .int .i64 (pErr o d)]) ∧ RSt w' b ga la (D : Int) (pV ga la v xs o d) lv' (pre' ++ pXs xs o d) ∧ pre'.length ≤ pre.length + 1 ∧ Chg (Fr b lv) w w' ∧ Newer w lv lv' := by
  subst hD
  rcases perr_cases o d with ⟨he, h1, h2⟩ | he
  · refine (rsstep_ok o d w h hc hl hx hv h1 h2).mono ?_
    rintro e w' ⟨lv', rfl, h3, h4, h5⟩
    simp only [pR, pV, pXs, he, if_pos, ← Int.add_assoc]
    rw [rstep_list] at h3
    exact ⟨lv', _, by trivial, h3, by simp, h4, h5⟩
  · refine (rsstep_bad (b := b) o d w he).mono ?_
    rintro e w' ⟨rfl, rfl⟩
    simp only [pR, pV, pXs, he]
    exact ⟨lv, pre, by trivial, h, by omega, Chg.refl _ _, fun g hg => .inl hg⟩

theorem aw_t1 (w : World) : Calls Try.prog 12 #[.agg #[.int .i64 100, .int .i64 1, .int .i64 0], .int .i64 (-1)] w fun e w' => e = .returned (.tuple #[.int .i64 (-1), .int .i64 0]) ∧ Below w.heap.size w w' :=
  (Target_any 100 1 0 (-1) w).mono fun _ _ h => ⟨h.1.trans (congrArg Ending.returned rfl), h.2⟩
theorem aw_t2 (w : World) : Calls Try.prog 12 #[.agg #[.int .i64 100, .int .i64 1, .int .i64 0], .int .i64 5] w fun e w' => e = .returned (.tuple #[.int .i64 1, .int .i64 0]) ∧ Below w.heap.size w w' :=
  (Target_any 100 1 0 5 w).mono fun _ _ h => ⟨h.1.trans (congrArg Ending.returned rfl), h.2⟩
theorem aw_new (w : World) : Calls Try.prog 17 #[.agg #[.int .i64 256, .int .i64 2, .int .i64 1], .int .i64 0, .int .i64 0] w fun e w' => ∃ b lb lv, e = .returned (.tuple #[.pointer (some ⟨b, 0, none⟩), .int .i64 0]) ∧ PSt w' b 256 2 1 0 lb lv [0] ∧ (∀ k, Fs b lb lv k → w.heap.size ≤ k) ∧ Below w.heap.size w w' :=
  pnew_any 256 2 1 0 0 w rfl
theorem aw_step {b lb : Nat} {lv : Value} {v x : Int} (v' : Int) (w : World) (h : PSt w b 256 2 1 v lb lv [x]) (hx : -16777216 ≤ x ∧ x ≤ 16777216) (hv : -1000 ≤ v ∧ v ≤ 1000) (hv' : v + ((tgt 256 (outOf [x] 5) - v) / 2 + 0) = v') : Calls Try.prog 19 #[.pointer (some ⟨b, 0, none⟩), .int .i64 5, .int .i64 0] w fun e w' => e = .returned (.tuple #[.int .i64 v', .int .i64 0]) ∧ PSt w' b 256 2 1 v' lb lv [5] ∧ Chg (Fs b lb lv) w w' := by
  subst hv'
  exact pstep_ok 5 0 w h rfl (by simp) (by intro n hn; simp at hn; subst hn; exact hx) (by omega) rfl rfl
theorem aw_bd (w : World) : Calls Try.prog 23 #[.agg #[.int .i64 256, .int .i64 10, .int .i64 0], .int .i64 0, .int .i64 100, .int .i64 2] w fun e w' => e = .returned (.tuple #[.int .i64 (-20), .int .i64 120, .int .i64 0]) ∧ Below w.heap.size w w' :=
  (bounds_any 256 10 0 0 100 2 w).mono fun _ _ h => ⟨h.1.trans (congrArg Ending.returned rfl), h.2⟩
theorem aw_isrest : IsRest 64 0 100 1 4 := by
  refine ⟨by omega, by omega, fun m h1 h2 => ?_⟩
  unfold farI tgt
  omega
theorem aw_rest (w : World) : Calls Try.prog 25 #[.agg #[.int .i64 64, .int .i64 1, .int .i64 0], .int .i64 0, .int .i64 100, .int .i64 1] w fun e w' => e = .returned (.tuple #[.int .i64 4, .int .i64 0]) ∧ Below w.heap.size w w' := by
  refine (rest_any 64 1 0 0 100 1 w).mono ?_
  rintro e w' ⟨n, rfl, h1, _, hb⟩
  obtain rfl := rest_one (h1 rfl) aw_isrest
  exact ⟨rfl, hb⟩

set_option maxHeartbeats 1000000 in
theorem awake_any (w : World) : Calls Try.prog 16 #[] w fun e w' => e = .returned (.bool true) ∧ Below w.heap.size w w' := by
  go_enter Try.func16, Try.ntmps16
  go_wp2_with fail
  refine (aw_t1 _).mono ?_
  rintro e w1 ⟨rfl, hb⟩
  have B1 := hid hb
  clear hb
  go_wp2_with fail
  refine (aw_t2 _).mono ?_
  rintro e w2 ⟨rfl, hb⟩
  have B2 := hid (B1.out.trans (hb.mono B1.out.size))
  clear hb
  go_wp2_with fail
  refine (aw_new _).mono ?_
  rintro e w3 ⟨b, lb, lv, rfl, H3, hge, hb⟩
  have S3 := hid H3
  have GE := hid hge
  have B3 := hid (B2.out.trans (hb.mono B2.out.size))
  have NE : Hid (∀ k, k < w.heap.size → ¬ Fs b lb lv k) := hid (fun k hk hf => by have h1 := hge k hf; have h2 := B2.out.size; omega)
  clear H3 hge hb
  go_wp2_with fail
  refine (aw_step (v := 0) (x := 0) 0 _ S3.out (by omega) (by omega) rfl).mono ?_
  rintro e w4 ⟨rfl, hs, hc⟩
  have S4 := hid hs
  have B4 := hid (hc.then_below B3.out NE.out B3.out.size)
  clear hs hc
  go_wp2_with fail
  refine (aw_step (v := 0) (x := 5) 2 _ S4.out (by omega) (by omega) rfl).mono ?_
  rintro e w5 ⟨rfl, hs, hc⟩
  have S5 := hid hs
  have B5 := hid (hc.then_below B4.out NE.out B4.out.size)
  clear hs hc
  go_wp2_with fail
  refine (aw_step (v := 2) (x := 5) 3 _ S5.out (by omega) (by omega) rfl).mono ?_
  rintro e w6 ⟨rfl, hs, hc⟩
  have S6 := hid hs
  have B6 := hid (hc.then_below B5.out NE.out B5.out.size)
  clear hs hc
  go_wp2_with fail
  refine (aw_rest _).mono ?_
  rintro e w7 ⟨rfl, hb⟩
  have S7 := hid (S6.out.below hb)
  have B7 := hid (B6.out.trans (hb.mono B6.out.size))
  clear hb
  go_wp2_with fail
  refine (aw_bd _).mono ?_
  rintro e w8 ⟨rfl, hb⟩
  have S8 := hid (S7.out.below hb)
  have B8 := hid (B7.out.trans (hb.mono B7.out.size))
  clear hb
  go_wp2_with fail
  refine (pval_any _ S8.out).mono ?_
  rintro e w9 ⟨rfl, rfl⟩
  go_wp2
  go_ret
  exact ⟨rfl, B8.out⟩
end Go.Proofs.Ytiphcdjfmihliaa
