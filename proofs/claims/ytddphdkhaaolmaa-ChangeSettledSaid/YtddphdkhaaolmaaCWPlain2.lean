/- Chapter 28: the plain part: limits, and loops at rest. -/
import Derived.Test.YtddphdkhaaolmaaCWPlain
namespace Go.Proofs.Ytddphdkhaaolmaa
open Go.RowKit

theorem coup_mid {c l x h : Int} (h1 : l ≤ x) (h2 : x ≤ h) : -(max (max (coup c h) (-(coup c h))) (max (coup c l) (-(coup c l)))) ≤ coup c x ∧ coup c x ≤ max (max (coup c h) (-(coup c h))) (max (coup c l) (-(coup c l))) := by
  unfold coup
  rcases Int.le_total 0 c with hc | hc
  · have e1 := Int.mul_le_mul_of_nonneg_left h1 hc
    have e2 := Int.mul_le_mul_of_nonneg_left h2 hc
    omega
  · have e1 := Int.mul_le_mul_of_nonpos_left hc h1
    have e2 := Int.mul_le_mul_of_nonpos_left hc h2
    omega
theorem col_rep (i k : Nat) (r : List Int) : col i (List.replicate k r) = List.replicate k (r.getD i 0) := by simp [col]
theorem zip_rep {α β γ : Type} (f : α → β → γ) (a : α) (b : β) : ∀ k : Nat, List.zipWith f (List.replicate k a) (List.replicate k b) = List.replicate k (f a b)
  | 0 => rfl
  | k + 1 => by rw [List.replicate_succ, List.replicate_succ, List.zipWith_cons_cons, zip_rep f a b k, ← List.replicate_succ]
theorem CP.rest_run {b : CP} {x n : Int} (hc : b.err = 0) (hx : absB x 16777216 = true) (hn : b.lo ≤ n ∧ n ≤ b.hi) (ht : x = tgt b.ga n) {k : Nat} (hk : k ≤ 512) : b.rErr n x (List.replicate k x) (List.replicate k 0) = 0 ∧ col 2 (b.rows n x (List.replicate k x) (List.replicate k 0)) = List.replicate k x := by
  obtain ⟨j1, j2, j3, j4⟩ := chkC_ok hc
  have ck := Ct.chk_ok j1
  have hxb := absB_true hx
  have hz : (List.replicate k x).zip (List.replicate k (0 : Int)) = List.replicate k (x, 0) := zip_rep _ _ _ _
  have he : b.rErr n x (List.replicate k x) (List.replicate k 0) = 0 := by
    refine run_mk hc (by simp; omega) (by simp) ?_ ?_
    · unfold okB
      simp [absB, Ct.inB]
      omega
    · intro p hp
      rw [hz] at hp
      have := (List.mem_replicate.1 hp).2
      subst this
      unfold okP
      simp [hx, absB_mk]
  refine ⟨he, ?_⟩
  unfold CP.rows
  rw [(rows_ok he).1, hz, sims_rest j1 hn ht.symm, col_rep]
  rfl
theorem rests_plain {b m : CP} {cp x y oB oM : Int} (h : RestSpec b m cp x y oB oM x y 0) {k : Nat} (hk : k ≤ 512) : wErr b m cp oB oM x y (List.replicate k [x, y]) (List.replicate k [0, 0]) = 0 ∧ wRows b m cp oB oM x y (List.replicate k [x, y]) (List.replicate k [0, 0]) = List.replicate k [x, y] := by
  obtain ⟨h1, h2, h3, h4⟩ := h
  have hc : chkW b m cp = 0 := Classical.byContradiction fun e => e (h1 e).symm
  have hs : absB x 16777216 = true ∧ absB y 16777216 = true := Classical.byContradiction fun e => by have := h2 hc e; omega
  obtain ⟨_, r1, r2, t1, t2⟩ := h4 hc hs
  obtain ⟨c1, c2, c3⟩ := chkW_ok hc
  obtain ⟨e1, v1⟩ := CP.rest_run c1 hs.1 ⟨r1.1, r1.2.1⟩ t1 hk
  obtain ⟨e2, v2⟩ := CP.rest_run c2 hs.2 ⟨r2.1, r2.2.1⟩ t2 hk
  have he : wErr b m cp oB oM x y (List.replicate k [x, y]) (List.replicate k [0, 0]) = 0 := by
    rw [← wErr_m hc (by simp; omega) (by simp) (by rw [col_rep, col_rep]; exact e1), col_rep, col_rep]
    exact e2
  refine ⟨he, ?_⟩
  rw [(wRows_ok he).1]
  have eb : bVals b oB x (List.replicate k [x, y]) (List.replicate k [0, 0]) = List.replicate k x := by
    unfold bVals
    rw [col_rep, col_rep]
    exact v1
  have ed : mDist b cp oB x (List.replicate k [x, y]) (List.replicate k [0, 0]) = List.replicate k 0 := by
    unfold mDist
    rw [eb, col_rep, col_rep]
    unfold dists
    show List.zipWith _ (List.replicate k 0) (List.zipWith _ (List.replicate k x) (List.replicate k x)) = _
    rw [zip_rep, zip_rep, Int.sub_self]
    have hz : lim (0 + coup cp 0) = 0 := by unfold lim coup; rw [Int.mul_zero]; decide
    rw [hz]
  have em : mVals b m cp oB oM x y (List.replicate k [x, y]) (List.replicate k [0, 0]) = List.replicate k y := by
    unfold mVals
    rw [ed, col_rep]
    exact v2
  rw [eb, em]
  exact zip_rep _ _ _ _
/-- The cells of the first rows. -/
theorem flat_take : ∀ (S : List (List Int)) (k : Nat), (∀ r ∈ S, r.length = 2) → S.flatten.take (k * 2) = (S.take k).flatten
  | [], k, _ => by simp
  | r :: S, 0, _ => by simp
  | r :: S, k + 1, h => by
    have hr := h r (by simp)
    rw [List.flatten_cons, List.take_succ_cons, List.flatten_cons, ← flat_take S k (fun q hq => h q (by simp [hq])), List.take_append, List.take_of_length_le (by omega), hr, show (k + 1) * 2 - 2 = k * 2 by omega]
theorem Rds.rowsCut {w : World} {A : Option Addr} {n : Nat} {S : List (List Int)} (h : Rds Nn w 2 A n (ints S.flatten)) (t : ∀ r ∈ S, r.length = 2) {k : Nat} (hk : k ≤ n) : Rds Nn w 2 A k (ints (S.take k).flatten) := by
  have := Rds.take h hk
  rw [← flat_take S k t]
  unfold ints at this ⊢
  rw [List.map_take]
  exact this
theorem take_two {S : List (List Int)} (t : ∀ r ∈ S, r.length = 2) (k : Nat) : ∀ r ∈ S.take k, r.length = 2 := fun r hr => t r (List.mem_of_mem_take hr)
end Go.Proofs.Ytddphdkhaaolmaa
