/- Chapter 28: the plain part: limits, and loops at rest. -/
import Derived.Test.YtfdblofpfpmbhaaWPlain
namespace Go.Proofs.Ytfdblofpfpmbhaa
open Go.RowKit

theorem CP.vals_lim {b : CP} {o v x : Int} {S D : List Int} (h : b.rErr o v S D = 0) (hx : 0 ≤ x ∧ x ≤ 65536) (hv : b.lLo x ≤ v ∧ v ≤ b.lHi x) (hd : ∀ d ∈ D, -x ≤ d ∧ d ≤ x) : ∀ y ∈ col 2 (b.rows o v S D), b.lLo x ≤ y ∧ y ≤ b.lHi x := by
  obtain ⟨k1, k2, k3, k4, k5⟩ := run_ok h
  obtain ⟨j1, j2, j3, j4⟩ := chkC_ok k1
  have ck := chkP_ok j2
  obtain ⟨_, zl, zh⟩ := CP.l_ok (b := b) k1 hx
  intro y hy
  obtain ⟨r, hr, rfl⟩ := List.mem_map.1 hy
  unfold CP.rows at hr
  rw [(rows_ok h).1] at hr
  have h0 := Bool.and_eq_true_iff.1 k4
  have hin := Ct.inB_true h0.2
  obtain ⟨p, q, c, rfl, c1, c2⟩ := vals_in (W := x) j1 ck.1 ck.2.2.1 (S.zip D) (s0 o v b.de.toNat) (fun n hn => by have := (List.mem_replicate.1 hn).2; omega) (by simp only [s0]; rw [← zl, ← zh]; exact hv) (fun p hp => hd p.2 (List.of_mem_zip hp).2) r hr
  rw [zl, zh]
  exact ⟨c1, c2⟩
theorem coup_mid {c l x h : Int} (h1 : l ≤ x) (h2 : x ≤ h) : -(max (max (coup c h) (-(coup c h))) (max (coup c l) (-(coup c l)))) ≤ coup c x ∧ coup c x ≤ max (max (coup c h) (-(coup c h))) (max (coup c l) (-(coup c l))) := by
  unfold coup
  rcases Int.le_total 0 c with hc | hc
  · have e1 := Int.mul_le_mul_of_nonneg_left h1 hc
    have e2 := Int.mul_le_mul_of_nonneg_left h2 hc
    omega
  · have e1 := Int.mul_le_mul_of_nonpos_left hc h1
    have e2 := Int.mul_le_mul_of_nonpos_left hc h2
    omega
theorem wl_in {b m : CP} {cp f t dB dM : Int} (h : wlErr b m cp f t dB dM = 0) : chkW b m cp = 0 ∧ (0 ≤ dB ∧ dB ≤ 65536) ∧ (0 ≤ dM ∧ dM ≤ 65536) := by
  unfold wlErr at h
  split at h
  · rename_i hq; exact absurd h hq
  · rename_i hq
    split at h
    · rename_i hq2
      simp only [Bool.and_eq_true] at hq2
      exact ⟨by simpa using hq, Ct.inB_true hq2.1.2, Ct.inB_true hq2.2⟩
    · cases h
theorem wlim_plain {b m : CP} {cp f t dB dM oB oM vB vM : Int} {S D : List (List Int)} (hl : wlErr b m cp f t dB dM = 0) (hr : wErr b m cp oB oM vB vM S D = 0) (hs : ∀ x ∈ col 0 S, f ≤ x ∧ x ≤ t) (hd0 : ∀ x ∈ col 0 D, -dB ≤ x ∧ x ≤ dB) (hd1 : ∀ x ∈ col 1 D, -dM ≤ x ∧ x ≤ dM) (hB : wl1 b m cp f t dB dM ≤ vB ∧ vB ≤ wl2 b m cp f t dB dM) (hM : wl3 b m cp f t dB dM ≤ vM ∧ vM ≤ wl4 b m cp f t dB dM) :
    (∀ x ∈ bVals b oB vB S D, wl1 b m cp f t dB dM ≤ x ∧ x ≤ wl2 b m cp f t dB dM) ∧ (∀ x ∈ mVals b m cp oB oM vB vM S D, wl3 b m cp f t dB dM ≤ x ∧ x ≤ wl4 b m cp f t dB dM) := by
  obtain ⟨_, g1, g2⟩ := wl_in hl
  have w1 : wl1 b m cp f t dB dM = b.lLo dB := by unfold wl1; rw [if_pos hl]
  have w2 : wl2 b m cp f t dB dM = b.lHi dB := by unfold wl2; rw [if_pos hl]
  have w3 : wl3 b m cp f t dB dM = m.lLo (wlD b cp f t dB dM) := by unfold wl3; rw [if_pos hl]
  have w4 : wl4 b m cp f t dB dM = m.lHi (wlD b cp f t dB dM) := by unfold wl4; rw [if_pos hl]
  rw [w1, w2] at hB ⊢
  rw [w3, w4] at hM ⊢
  have hb := CP.vals_lim (wErr_ok hr).2.2.2.1 g1 hB hd0
  refine ⟨hb, ?_⟩
  refine CP.vals_lim (mErr hr) (wlD_in g2.1) hM ?_
  intro d hd
  obtain ⟨k, hk⟩ := List.mem_iff_getElem?.1 hd
  unfold mDist dists at hk
  rw [List.getElem?_zipWith, List.getElem?_zipWith] at hk
  split at hk
  · rename_i e y e1 e2
    injection hk with hk
    subst hk
    split at e2
    · rename_i v s e3 e4
      injection e2 with e2
      subst e2
      have a1 := hd1 e (List.mem_of_getElem? e1)
      have a2 := hb v (List.mem_of_getElem? e3)
      have a3 := hs s (List.mem_of_getElem? e4)
      have a4 := coup_mid (c := cp) (l := b.lLo dB - t) (x := v - s) (h := b.lHi dB - f) (by omega) (by omega)
      unfold lim wlD wlC
      omega
    · cases e2
  · cases hk
theorem col_rep (i k : Nat) (r : List Int) : col i (List.replicate k r) = List.replicate k (r.getD i 0) := by simp [col]
theorem zip_rep {α β γ : Type} (f : α → β → γ) (a : α) (b : β) : ∀ k : Nat, List.zipWith f (List.replicate k a) (List.replicate k b) = List.replicate k (f a b)
  | 0 => rfl
  | k + 1 => by rw [List.replicate_succ, List.replicate_succ, List.zipWith_cons_cons, zip_rep f a b k, ← List.replicate_succ]
theorem CP.rest_run {b : CP} {x n : Int} (hc : b.err = 0) (hx : absB x 16777216 = true) (hn : b.lo ≤ n ∧ n ≤ b.hi) (ht : x = tgt b.ga n) {k : Nat} (hk : k ≤ 512) : b.rErr n x (List.replicate k x) (List.replicate k 0) = 0 ∧ col 2 (b.rows n x (List.replicate k x) (List.replicate k 0)) = List.replicate k x := by
  obtain ⟨j1, j2, j3, j4⟩ := chkC_ok hc
  have ck := Ct.chk_ok j1
  have hxb := absB_true hx
  have hz : (List.replicate k x).zip (List.replicate k (0 : Int)) = List.replicate k (x, 0) := zip_rep _ _ _ _
  have he : b.rErr n x (List.replicate k x) (List.replicate k 0) = 0 := by
    refine run_mk hc (by simp; omega) (by simp) ?_ ?_
    · unfold okB
      simp [absB, Ct.inB]
      omega
    · intro p hp
      rw [hz] at hp
      have := (List.mem_replicate.1 hp).2
      subst this
      unfold okP
      simp [hx, absB_mk]
  refine ⟨he, ?_⟩
  unfold CP.rows
  rw [(rows_ok he).1, hz, sims_rest j1 hn ht.symm, col_rep]
  rfl
theorem rests_plain {b m : CP} {cp x y oB oM : Int} (h : RestSpec b m cp x y oB oM x y 0) {k : Nat} (hk : k ≤ 512) : wErr b m cp oB oM x y (List.replicate k [x, y]) (List.replicate k [0, 0]) = 0 ∧ wRows b m cp oB oM x y (List.replicate k [x, y]) (List.replicate k [0, 0]) = List.replicate k [x, y] := by
  obtain ⟨h1, h2, h3, h4⟩ := h
  have hc : chkW b m cp = 0 := Classical.byContradiction fun e => e (h1 e).symm
  have hs : absB x 16777216 = true ∧ absB y 16777216 = true := Classical.byContradiction fun e => by have := h2 hc e; omega
  obtain ⟨_, r1, r2, t1, t2⟩ := h4 hc hs
  obtain ⟨c1, c2, c3⟩ := chkW_ok hc
  obtain ⟨e1, v1⟩ := CP.rest_run c1 hs.1 ⟨r1.1, r1.2.1⟩ t1 hk
  obtain ⟨e2, v2⟩ := CP.rest_run c2 hs.2 ⟨r2.1, r2.2.1⟩ t2 hk
  have he : wErr b m cp oB oM x y (List.replicate k [x, y]) (List.replicate k [0, 0]) = 0 := by
    rw [← wErr_m hc (by simp; omega) (by simp) (by rw [col_rep, col_rep]; exact e1), col_rep, col_rep]
    exact e2
  refine ⟨he, ?_⟩
  rw [(wRows_ok he).1]
  have eb : bVals b oB x (List.replicate k [x, y]) (List.replicate k [0, 0]) = List.replicate k x := by
    unfold bVals
    rw [col_rep, col_rep]
    exact v1
  have ed : mDist b cp oB x (List.replicate k [x, y]) (List.replicate k [0, 0]) = List.replicate k 0 := by
    unfold mDist
    rw [eb, col_rep, col_rep]
    unfold dists
    show List.zipWith _ (List.replicate k 0) (List.zipWith _ (List.replicate k x) (List.replicate k x)) = _
    rw [zip_rep, zip_rep, Int.sub_self]
    have hz : lim (0 + coup cp 0) = 0 := by unfold lim coup; rw [Int.mul_zero]; decide
    rw [hz]
  have em : mVals b m cp oB oM x y (List.replicate k [x, y]) (List.replicate k [0, 0]) = List.replicate k y := by
    unfold mVals
    rw [ed, col_rep]
    exact v2
  rw [eb, em]
  exact zip_rep _ _ _ _
/-- The cells of the first rows. -/
theorem flat_take : ∀ (S : List (List Int)) (k : Nat), (∀ r ∈ S, r.length = 2) → S.flatten.take (k * 2) = (S.take k).flatten
  | [], k, _ => by simp
  | r :: S, 0, _ => by simp
  | r :: S, k + 1, h => by
    have hr := h r (by simp)
    rw [List.flatten_cons, List.take_succ_cons, List.flatten_cons, ← flat_take S k (fun q hq => h q (by simp [hq])), List.take_append, List.take_of_length_le (by omega), hr, show (k + 1) * 2 - 2 = k * 2 by omega]
theorem Rds.rowsCut {w : World} {A : Option Addr} {n : Nat} {S : List (List Int)} (h : Rds Nn w 2 A n (ints S.flatten)) (t : ∀ r ∈ S, r.length = 2) {k : Nat} (hk : k ≤ n) : Rds Nn w 2 A k (ints (S.take k).flatten) := by
  have := Rds.take h hk
  rw [← flat_take S k t]
  unfold ints at this ⊢
  rw [List.map_take]
  exact this
theorem take_two {S : List (List Int)} (t : ∀ r ∈ S, r.length = 2) (k : Nat) : ∀ r ∈ S.take k, r.length = 2 := fun r hr => t r (List.mem_of_mem_take hr)
end Go.Proofs.Ytfdblofpfpmbhaa
