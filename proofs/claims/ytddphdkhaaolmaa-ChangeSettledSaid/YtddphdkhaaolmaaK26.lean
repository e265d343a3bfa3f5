/- Chapter 26: steps, whatever is given. -/
import Derived.Test.YtddphdkhaaolmaaPStep
import Derived.Test.YtddphdkhaaolmaaKRState
namespace Go.Proofs.Ytddphdkhaaolmaa
open Go.RowKit

theorem mid {v t l : Int} (h : 1 ≤ l) : (v ≤ t → v ≤ v + (t - v) / l ∧ v + (t - v) / l ≤ t) ∧ (t ≤ v → t ≤ v + (t - v) / l ∧ v + (t - v) / l ≤ v) := by
  constructor
  · intro hv
    have h1 := Int.ediv_nonneg (show 0 ≤ t - v by omega) (show 0 ≤ l by omega)
    have h2 := Int.ediv_le_self l (show 0 ≤ t - v by omega)
    omega
  · intro hv
    have h1 : t - v ≤ (t - v) / l := by
      rw [Int.le_ediv_iff_mul_le (by omega)]
      have := Int.mul_le_mul_of_nonpos_left (show t - v ≤ 0 by omega) h
      rw [Int.mul_one] at this
      exact this
    have h2 : (t - v) / l < 1 := Int.ediv_lt_of_lt_mul (by omega) (by omega)
    omega
theorem pv_bd {ga la de v o d : Int} {xs : List Int} {k : Nat} (hc : chkP ga la de = 0) (hx : OkL xs) (hv : -(1073741824 + 65537 * (k : Int)) ≤ v ∧ v ≤ 1073741824 + 65537 * (k : Int)) : -(1073741824 + 65537 * ((k + 1 : Nat) : Int)) ≤ pV ga la v xs o d ∧ pV ga la v xs o d ≤ 1073741824 + 65537 * ((k + 1 : Nat) : Int) := by
  obtain ⟨b1, b2, b3, b4, b5, b6⟩ := chkP_ok hc
  unfold pV
  split
  · rename_i he
    have hb : (absB o 16777216 && absB d 65536) = true := by
      unfold pErr at he
      split at he
      · assumption
      · cases he
    simp only [Bool.and_eq_true] at hb
    have h1 := okl_out hx hb.1
    have h2 := absB_true hb.2
    have ht := tgt_bd (n := outOf xs o) b1 b2 (by omega) (by omega)
    have hm := mid (v := v) (t := tgt ga (outOf xs o)) b3
    rcases Int.le_total v (tgt ga (outOf xs o)) with h | h
    · have := hm.1 h; omega
    · have := hm.2 h; omega
  · omega
theorem okl_push {xs : List Int} {o d : Int} (h : OkL xs) : OkL (pXs xs o d) := by
  unfold pXs
  split
  · rename_i he
    have hb : (absB o 16777216 && absB d 65536) = true := by
      unfold pErr at he
      split at he
      · assumption
      · cases he
    simp only [Bool.and_eq_true] at hb
    have h1 := absB_true hb.1
    intro n hn
    have : n ∈ xs ++ [o] := List.mem_of_mem_tail hn
    rcases List.mem_append.1 this with h2 | h2
    · exact h n h2
    · simp at h2; subst h2; exact h1
  · exact h
theorem pxs_len {xs : List Int} {o d : Int} : (pXs xs o d).length = xs.length := by
  unfold pXs
  split
  · simp [pushOf]
  · rfl
theorem okl_rep {n : Int} {k : Nat} (h : absB n 16777216 = true) : OkL (List.replicate k n) := by
  have := absB_true h
  intro m hm
  have := (List.mem_replicate.1 hm).2
  omega
theorem perr_cases (o d : Int) : (pErr o d = 0 ∧ absB o 16777216 = true ∧ absB d 65536 = true) ∨ pErr o d = 1 := by
  unfold pErr
  split
  · rename_i h
    simp only [Bool.and_eq_true] at h
    exact .inl ⟨rfl, h⟩
  · exact .inr rfl
/-- One step, whatever is given. -/
theorem pstep_any {b lb : Nat} {ga la de v : Int} {lv : Value} {xs : List Int} (o d : Int) (w : World) (h : PSt w b ga la de v lb lv xs) (hc : chkP ga la de = 0) (hl : xs.length ≤ 1000) (hx : OkL xs) (hv : -1125899906842624 ≤ v ∧ v ≤ 1125899906842624) :
    Calls Try.prog 96 #[.pointer (some ⟨b, 0, none⟩), .int .i64 o, .int .i64 d] w fun e w' => e = .returned (.tuple #[.int .i64 (pR ga la v xs o d), .int .i64 (pErr o d)]) ∧ PSt w' b ga la de (pV ga la v xs o d) lb lv (pXs xs o d) ∧ Chg (Fs b lb lv) w w' := by
  rcases perr_cases o d with ⟨he, h1, h2⟩ | he
  · refine (pstep_ok o d w h hc hl hx hv h1 h2).mono ?_
    intro e w' hh
    simp only [pR, pV, pXs, he, if_pos]
    exact hh
  · refine (pstep_bad (b := b) o d w he).mono ?_
    rintro e w' ⟨rfl, rfl⟩
    simp only [pR, pV, pXs, he]
    exact ⟨by trivial, h, Chg.refl _ _⟩
theorem rstep_list {xs : List Int} {o : Int} : ∀ pre : List Int, pre ++ xs ++ [o] = (pre ++ [outOf xs o]) ++ pushOf xs o := by
  intro pre
  rcases xs with _ | ⟨x, xs⟩ <;> simp [outOf, pushOf]
theorem rsstep_any {b : Nat} {ga la v : Int} {lv : Value} {pre xs : List Int} {D : Nat} (o d : Int) (w : World) (hD : xs.length = D) (h : RSt w b ga la (D : Int) v lv (pre ++ xs)) (hc : chkP ga la (D : Int) = 0) (hl : pre.length ≤ 1000) (hx : OkL xs) (hv : -1125899906842624 ≤ v ∧ v ≤ 1125899906842624) :
    Calls Try.prog 84 #[.pointer (some ⟨b, 0, none⟩), .int .i64 o, .int .i64 d] w fun e w' => ∃ lv' pre', e = .returned (.tuple #[.int .i64 (pR ga la v xs o d), .int .i64 (pErr o d)]) ∧ RSt w' b ga la (D : Int) (pV ga la v xs o d) lv' (pre' ++ pXs xs o d) ∧ pre'.length ≤ pre.length + 1 ∧ Chg (Fr b lv) w w' ∧ Newer w lv lv' := by
  subst hD
  rcases perr_cases o d with ⟨he, h1, h2⟩ | he
  · refine (rsstep_ok o d w h hc hl hx hv h1 h2).mono ?_
    rintro e w' ⟨lv', rfl, h3, h4, h5⟩
    simp only [pR, pV, pXs, he, if_pos, ← Int.add_assoc]
    rw [rstep_list] at h3
    exact ⟨lv', _, by trivial, h3, by simp, h4, h5⟩
  · refine (rsstep_bad (b := b) o d w he).mono ?_
    rintro e w' ⟨rfl, rfl⟩
    simp only [pR, pV, pXs, he]
    exact ⟨lv, pre, by trivial, h, by omega, Chg.refl _ _, fun g hg => .inl hg⟩

end Go.Proofs.Ytddphdkhaaolmaa
