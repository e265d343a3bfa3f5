/- Chapter 28: the plain part: what the first steps say. -/
import Derived.Test.YtddphdkhaaolmaaCWeb6
namespace Go.Proofs.Ytddphdkhaaolmaa
open Go.RowKit

theorem CP.take {b : CP} {o v : Int} {S D : List Int} (h : b.rErr o v S D = 0) (k : Nat) : b.rErr o v (S.take k) (D.take k) = 0 ∧ b.rows o v (S.take k) (D.take k) = (b.rows o v S D).take k := by
  obtain ⟨h1, h2, h3, h4, h5⟩ := run_ok h
  have hz : (S.take k).zip (D.take k) = (S.zip D).take k := by unfold List.zip; rw [List.take_zipWith]
  have he : b.rErr o v (S.take k) (D.take k) = 0 := by
    refine run_mk h1 (by rw [List.length_take]; omega) (by rw [List.length_take, List.length_take]; omega) h4 ?_
    intro p hp
    rw [hz] at hp
    exact h5 p (List.mem_of_mem_take hp)
  refine ⟨he, ?_⟩
  have e1 := (rows_ok he).1
  have e2 := (rows_ok h).1
  unfold CP.rows
  rw [e1, e2, hz, sims_take]
theorem dists_take (c : Int) (ds vs ss : List Int) (k : Nat) : dists c (ds.take k) (vs.take k) (ss.take k) = (dists c ds vs ss).take k := by
  unfold dists
  rw [List.take_zipWith, List.take_zipWith]
theorem wtake {b m : CP} {c oB oM vB vM : Int} {S D : List (List Int)} (h : wErr b m c oB oM vB vM S D = 0) (k : Nat) : wErr b m c oB oM vB vM (S.take k) (D.take k) = 0 ∧ wRows b m c oB oM vB vM (S.take k) (D.take k) = (wRows b m c oB oM vB vM S D).take k := by
  obtain ⟨h1, h2, h3, h4, h5⟩ := wErr_ok h
  obtain ⟨b1, b2⟩ := CP.take h4 k
  obtain ⟨m1, _⟩ := CP.take h5 k
  have he : wErr b m c oB oM vB vM (S.take k) (D.take k) = 0 := by
    rw [← wErr_m h1 (by rw [List.length_take]; omega) (by rw [List.length_take, List.length_take]; omega) (by rw [col_take, col_take]; exact b1), col_take, col_take]
    exact m1
  refine ⟨he, ?_⟩
  rw [(wRows_ok he).1, (wRows_ok h).1]
  have eb : bVals b oB vB (S.take k) (D.take k) = (bVals b oB vB S D).take k := by
    unfold bVals
    rw [col_take, col_take, b2, col_take]
  have ed : mDist b c oB vB (S.take k) (D.take k) = (mDist b c oB vB S D).take k := by
    unfold mDist
    rw [eb, col_take, col_take, dists_take]
  have em : mVals b m c oB oM vB vM (S.take k) (D.take k) = (mVals b m c oB oM vB vM S D).take k := by
    unfold mVals
    rw [ed, col_take, (CP.take (mErr h) k).2, col_take]
  rw [eb, em]
  unfold pairs
  rw [List.take_zipWith]
/-- A loop at rest stays. -/
theorem nx_rest {kp ki sh lo hi rate ga la n x : Int} {D : Nat} (hc : Ct.chk kp ki sh lo hi rate = 0) (hn : lo ≤ n ∧ n ≤ hi) (ht : tgt ga n = x) : nx kp ki sh lo hi rate ga la (s0 n x D) x 0 = s0 n x D := by
  have ck := Ct.chk_ok hc
  have ho : Ct.stepOut kp ki sh lo hi rate n 0 x x = n := by
    unfold Ct.stepOut Ct.chg Ct.clampI
    simp only [Int.sub_self, Int.mul_zero, Int.add_zero, Int.zero_ediv]
    omega
  unfold nx s0
  simp only [ho, out_rep, push_rep, ht, Int.sub_self, Int.zero_ediv, Int.add_zero]
theorem sims_rest {kp ki sh lo hi rate ga la n x : Int} {D : Nat} (hc : Ct.chk kp ki sh lo hi rate = 0) (hn : lo ≤ n ∧ n ≤ hi) (ht : tgt ga n = x) : ∀ k : Nat, sims kp ki sh lo hi rate ga la (s0 n x D) (List.replicate k (x, 0)) = List.replicate k [x, n, x]
  | 0 => rfl
  | k + 1 => by
    rw [List.replicate_succ, List.replicate_succ]
    unfold sims
    simp only [nx_rest hc hn ht]
    rw [sims_rest hc hn ht k]
    rfl
end Go.Proofs.Ytddphdkhaaolmaa
