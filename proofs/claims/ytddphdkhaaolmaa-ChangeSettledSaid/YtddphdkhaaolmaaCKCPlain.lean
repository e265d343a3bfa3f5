/- Chapter 27: what simulations keep. -/
import Derived.Test.YtddphdkhaaolmaaCCl5
namespace Go.Proofs.Ytddphdkhaaolmaa
open Go.RowKit

theorem rows_three (kp ki sh lo hi rate ga la de out v : Int) (sets dist : List Int) : ∀ r ∈ runRows kp ki sh lo hi rate ga la de out v sets dist, r.length = 3 := by
  intro r hr
  unfold runRows at hr
  split at hr
  · exact sims_three _ _ r hr
  · cases hr
theorem rows_len (kp ki sh lo hi rate ga la de out v : Int) (sets dist : List Int) (h : sets.length ≤ 600) : (runRows kp ki sh lo hi rate ga la de out v sets dist).length ≤ 1000000 := by
  unfold runRows
  split
  · rw [sims_len, List.length_zip]; omega
  · simp
theorem run_ok {kp ki sh lo hi rate ga la de out v : Int} {sets dist : List Int} (h : runErr kp ki sh lo hi rate ga la de out v sets dist = 0) : chkC kp ki sh lo hi rate ga la de = 0 ∧ sets.length ≤ 512 ∧ dist.length = sets.length ∧ okB lo hi out v = true ∧ (∀ p ∈ sets.zip dist, okP p = true) := by
  unfold runErr at h
  split at h
  · rename_i hq; exact absurd h hq
  · rename_i hq
    split at h
    · cases h
    · rename_i hq2
      split at h
      · cases h
      · rename_i hq3
        split at h
        · rename_i hb
          simp only [Bool.and_eq_true] at hb
          exact ⟨by simpa using hq, by omega, by simpa using hq3, hb.1, List.all_eq_true.1 hb.2⟩
        · cases h
theorem run_mk {kp ki sh lo hi rate ga la de out v : Int} {sets dist : List Int} (h1 : chkC kp ki sh lo hi rate ga la de = 0) (h2 : sets.length ≤ 512) (h3 : dist.length = sets.length) (h4 : okB lo hi out v = true) (h5 : ∀ p ∈ sets.zip dist, okP p = true) : runErr kp ki sh lo hi rate ga la de out v sets dist = 0 := by
  unfold runErr
  rw [if_neg (by omega), if_neg (by omega), if_neg (by omega), h4, List.all_eq_true.2 h5]
  rfl
theorem rows_ok {kp ki sh lo hi rate ga la de out v : Int} {sets dist : List Int} (h : runErr kp ki sh lo hi rate ga la de out v sets dist = 0) : runRows kp ki sh lo hi rate ga la de out v sets dist = sims kp ki sh lo hi rate ga la (s0 out v de.toNat) (sets.zip dist) ∧ (runRows kp ki sh lo hi rate ga la de out v sets dist).length = sets.length := by
  have h3 := (run_ok h).2.2.1
  unfold runRows
  rw [if_pos h]
  refine ⟨rfl, ?_⟩
  rw [sims_len, List.length_zip]
  omega
section
variable {kp ki sh lo hi rate ga la : Int}
/-- Values within limits stay within them. -/
theorem vals_in {W : Int} (h1 : Ct.chk kp ki sh lo hi rate = 0) (hg : 1 ≤ ga) (hla : 1 ≤ la) : ∀ (l : List (Int × Int)) (s : SS), (∀ n ∈ s.xs, lo ≤ n ∧ n ≤ hi) → (tgt ga lo - W * la ≤ s.v ∧ s.v ≤ tgt ga hi + W * la) → (∀ p ∈ l, -W ≤ p.2 ∧ p.2 ≤ W) →
    ∀ r ∈ sims kp ki sh lo hi rate ga la s l, ∃ a b c : Int, r = [a, b, c] ∧ tgt ga lo - W * la ≤ c ∧ c ≤ tgt ga hi + W * la
  | [], _, _, _, _ => by simp [sims]
  | p :: l, s, hx, hv, hw => by
    have so := step_in (hi := hi) h1 s.out s.last p.1 s.v
    have oi := out_in hx so
    have t1 := tgt_mono (ga := ga) hg oi.1
    have t2 := tgt_mono (ga := ga) hg oi.2
    have hn := keep_gen (d := p.2) hla ⟨t1, t2⟩ (hw p (by simp)) hv
    intro r hr
    rcases List.mem_cons.1 hr with rfl | hr
    · exact ⟨_, _, _, rfl, hn⟩
    · exact vals_in h1 hg hla l _ (push_in hx so) hn (fun q hq => hw q (by simp [hq])) r hr
theorem sims_take : ∀ (l : List (Int × Int)) (s : SS) (n : Nat), sims kp ki sh lo hi rate ga la s (l.take n) = (sims kp ki sh lo hi rate ga la s l).take n
  | [], _, n => by simp [sims]
  | p :: l, s, 0 => by simp [sims]
  | p :: l, s, n + 1 => by simp only [List.take_succ_cons, sims]; rw [sims_take l _ n]
/-- The output before the k-th step. -/
def prevO (out : Int) (rows : List (List Int)) : Nat → Int
  | 0 => out
  | k + 1 => match rows[k]? with | some [_, b, _] => b | _ => out
theorem outs_in (h1 : Ct.chk kp ki sh lo hi rate = 0) : ∀ (l : List (Int × Int)) (s : SS), (lo ≤ s.out ∧ s.out ≤ hi) → ∀ k p, l[k]? = some p → ∃ b c : Int, (sims kp ki sh lo hi rate ga la s l)[k]? = some [p.1, b, c] ∧ lo ≤ b ∧ b ≤ hi ∧ b - prevO s.out (sims kp ki sh lo hi rate ga la s l) k ≤ rate ∧ prevO s.out (sims kp ki sh lo hi rate ga la s l) k - b ≤ rate ∧ lo ≤ prevO s.out (sims kp ki sh lo hi rate ga la s l) k ∧ prevO s.out (sims kp ki sh lo hi rate ga la s l) k ≤ hi
  | [], _, _ => by simp
  | q :: l, s, ho => by
    intro k p hk
    have so := step_in (hi := hi) h1 s.out s.last q.1 s.v
    match k, hk with
    | 0, hk =>
      simp at hk
      subst hk
      refine ⟨_, _, rfl, so.1, so.2, ?_, ?_, ho⟩
      · have ck := Ct.chk_ok h1
        simp only [prevO, nx, Ct.stepOut, Ct.chg, Ct.clampI]
        omega
      · have ck := Ct.chk_ok h1
        simp only [prevO, nx, Ct.stepOut, Ct.chg, Ct.clampI]
        omega
    | k + 1, hk =>
      simp only [List.getElem?_cons_succ] at hk
      obtain ⟨b, c, e1, e2⟩ := outs_in h1 l (nx kp ki sh lo hi rate ga la s q.1 q.2) so k p hk
      have hp : prevO s.out (sims kp ki sh lo hi rate ga la s (q :: l)) (k + 1) = prevO (nx kp ki sh lo hi rate ga la s q.1 q.2).out (sims kp ki sh lo hi rate ga la (nx kp ki sh lo hi rate ga la s q.1 q.2) l) k := by
        match k, hk with
        | 0, _ => simp [prevO, sims]
        | k + 1, hk =>
          have hk2 : k < l.length := by have := (List.getElem?_eq_some_iff.1 hk).1; omega
          obtain ⟨b', c', e3, _⟩ := outs_in h1 l (nx kp ki sh lo hi rate ga la s q.1 q.2) so k l[k] (List.getElem?_eq_getElem hk2)
          simp only [prevO, sims, List.getElem?_cons_succ, e3]
      rw [hp]
      exact ⟨b, c, by simpa [sims] using e1, e2⟩
end
end Go.Proofs.Ytddphdkhaaolmaa
