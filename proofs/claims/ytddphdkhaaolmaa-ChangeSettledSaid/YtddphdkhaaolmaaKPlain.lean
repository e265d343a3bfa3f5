/- Chapter 26: what the steps of a process keep. -/
import Derived.Test.YtddphdkhaaolmaaK26
import Derived.Test.YtddphdkhaaolmaaRw
namespace Go.Proofs.Ytddphdkhaaolmaa
open Go.RowKit

theorem tgt_mono {ga a b : Int} (h1 : 1 ≤ ga) (h : a ≤ b) : tgt ga a ≤ tgt ga b := by
  unfold tgt
  exact Int.ediv_le_ediv (by omega) (Int.mul_le_mul_of_nonneg_left h (by omega))

theorem PSt.drew {w : World} {b lb : Nat} {ga la de v : Int} {lv : Value} {xs : List Int} (h : PSt w b ga la de v lb lv xs) : PSt w.drew b ga la de v lb lv xs := h.keep ((Chg.refl Nn _).drew) (fun _ _ => id)
def clampI (n lo hi : Int) : Int := max lo (min n hi)
theorem clampI_in {n lo hi : Int} (h : lo ≤ hi) : lo ≤ clampI n lo hi ∧ clampI n lo hi ≤ hi := by unfold clampI; omega
/-- Steps within the bounds stay within them. -/
theorem keep_bounds {ga la lo hi W v o d T : Int} (h1 : 1 ≤ ga) (hla : 1 ≤ la) (hT : tgt ga o = T) (ho : lo ≤ o ∧ o ≤ hi) (hd : -W ≤ d ∧ d ≤ W) (hv : tgt ga lo - W * la ≤ v ∧ v ≤ tgt ga hi + W * la) :
    tgt ga lo - W * la ≤ v + ((T - v) / la + d) ∧ v + ((T - v) / la + d) ≤ tgt ga hi + W * la := by
  have m1 := tgt_mono (ga := ga) h1 ho.1
  have m2 := tgt_mono (ga := ga) h1 ho.2
  rw [hT] at m1 m2
  have e1 : (tgt ga lo - W * la - v) / la = (tgt ga lo - v) / la - W := by
    rw [show tgt ga lo - W * la - v = (tgt ga lo - v) + (-W) * la by rw [Int.neg_mul]; omega, Int.add_mul_ediv_right _ _ (by omega)]; omega
  have e2 : (tgt ga hi + W * la - v) / la = (tgt ga hi - v) / la + W := by
    rw [show tgt ga hi + W * la - v = (tgt ga hi - v) + W * la by omega, Int.add_mul_ediv_right _ _ (by omega)]
  have l1 : (tgt ga lo - v) / la ≤ (T - v) / la := Int.ediv_le_ediv (by omega) (by omega)
  have l2 : (T - v) / la ≤ (tgt ga hi - v) / la := Int.ediv_le_ediv (by omega) (by omega)
  have k1 := (mid (v := v) (t := tgt ga lo - W * la) hla).2 hv.1
  have k2 := (mid (v := v) (t := tgt ga hi + W * la) hla).1 hv.2
  rw [e1] at k1
  rw [e2] at k2
  omega
/-- The greater value stays the greater one. -/
theorem keep_order {la v u T : Int} (hla : 1 ≤ la) (h : v ≤ u) : v + (T - v) / la ≤ u + (T - u) / la := by
  have h1 : (T - v) / la ≤ ((T - u) + (u - v) * la) / la := Int.ediv_le_ediv (by omega) (by
    have := Int.mul_le_mul_of_nonneg_left hla (show 0 ≤ u - v by omega)
    rw [Int.mul_one] at this
    omega)
  rw [Int.add_mul_ediv_right _ _ (by omega)] at h1
  omega
/-- Two lines that agree in what leaves them within r steps. -/
def Agree (r : Nat) (xs ys : List Int) : Prop := xs.length = ys.length ∧ ∀ j, j < r → xs[j]? = ys[j]?
theorem agree_out {r : Nat} {xs ys : List Int} {o p : Int} (h : Agree (r + 1) xs ys) (ho : xs.length < r + 1 → o = p) : outOf xs o = outOf ys p := by
  obtain ⟨h1, h2⟩ := h
  rcases xs with _ | ⟨x, xs⟩ <;> rcases ys with _ | ⟨y, ys⟩
  · simpa [outOf] using ho (by simp)
  · simp at h1
  · simp at h1
  · have := h2 0 (by omega)
    simpa [outOf] using this
theorem agree_push {r : Nat} {xs ys : List Int} {o p : Int} (h : Agree (r + 1) xs ys) (ho : xs.length < r + 1 → o = p) : Agree r (pushOf xs o) (pushOf ys p) := by
  obtain ⟨h1, h2⟩ := h
  refine ⟨by simp [pushOf, h1], fun j hj => ?_⟩
  unfold pushOf
  rw [List.getElem?_tail, List.getElem?_tail]
  by_cases hx : j + 1 < xs.length
  · rw [List.getElem?_append_left hx, List.getElem?_append_left (by omega)]
    exact h2 _ (by omega)
  · rw [List.getElem?_append_right (by omega), List.getElem?_append_right (by omega), h1]
    by_cases he : j + 1 - ys.length = 0
    · rw [he]
      simpa using ho (by omega)
    · rw [List.getElem?_eq_none (by simp; omega), List.getElem?_eq_none (by simp; omega)]
theorem agree_less {r : Nat} {xs ys : List Int} (h : Agree (r + 1) xs ys) : Agree r xs ys := ⟨h.1, fun j hj => h.2 j (by omega)⟩
theorem out_rep {n : Nat} {x : Int} : outOf (List.replicate n x) x = x := by
  unfold outOf
  rw [← List.replicate_succ', List.replicate_succ]; rfl
theorem push_rep {n : Nat} {x : Int} : pushOf (List.replicate n x) x = List.replicate n x := by
  unfold pushOf
  rw [← List.replicate_succ', List.replicate_succ]; rfl
theorem pst_eq {w : World} {b lb : Nat} {ga la de v v' : Int} {lv : Value} {xs xs' : List Int} (h : PSt w b ga la de v lb lv xs) (hv : v = v') (hx : xs = xs') : PSt w b ga la de v' lb lv xs' := by rw [← hv, ← hx]; exact h
end Go.Proofs.Ytddphdkhaaolmaa
