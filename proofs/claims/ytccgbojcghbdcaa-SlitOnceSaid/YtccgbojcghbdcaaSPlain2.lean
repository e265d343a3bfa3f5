/- Chapter 39: the points of a set's children, the plain part; strips and trim side by side. -/
import Derived.Test.YtccgbojcghbdcaaSl9
namespace Go.Proofs.Ytccgbojcghbdcaa
open Go.RowKit

theorem set_facts {W L U K : Int} {l : List (List Int)} (h : setErr W L l U K = 0) : slErr W l = 0 ∧ (1 ≤ L ∧ L ≤ 17179869184) ∧ (0 ≤ U ∧ U ≤ L) ∧ (1 ≤ K ∧ K ≤ 17179869184) ∧ K ≤ L - U := by
  unfold setErr at h
  split at h
  · rename_i h1; exact absurd h h1
  · rename_i h1
    split at h
    · cases h
    · rename_i h2
      split at h
      · cases h
      · rename_i h3
        obtain ⟨a, b, c⟩ := set_good h2
        exact ⟨by simpa using h1, a, b, c, by omega⟩
/-- The run of a winding. -/
def runW (L U K : Int) : List Ru := [(L - 1 - U, K, decide (1 < K))]
theorem run_good {L U K : Int} (h1 : 1 ≤ L ∧ L ≤ 17179869184) (h2 : 0 ≤ U ∧ U ≤ L) (h3 : 1 ≤ K ∧ K ≤ 17179869184) (h4 : K ≤ L - U) : runErr (runW L U K) = 0 := by
  refine (re_0 (m := runW L U K) (by simp [runW]) ?_ ?_).symm
  · intro r hr
    simp only [runW, List.mem_singleton] at hr
    subst hr
    simp only [runOk, decide_eq_true_eq, decide_eq_false_iff_not]
    omega
  · simp only [runW, lenR]
    omega
theorem pl_set {W L U K lf wd : Int} {l : List (List Int)} (h : setErr W L l U K = 0) (hm : [lf, wd] ∈ l) : tuErr lf wd (runW L U K) = 0 ∧ (0 ≤ lf ∧ 1 ≤ wd ∧ lf + wd ≤ W ∧ W ≤ 12000) := by
  obtain ⟨h0, h1, h2, h3, h4⟩ := set_facts h
  obtain ⟨hW, _, hl, _⟩ := sl_ok h0
  obtain ⟨k1, k2, k3, k4⟩ := hl _ hm
  simp only [List.getD_cons_zero, List.getD_cons_succ] at k1 k2 k3 k4
  refine ⟨?_, k1, k2, by omega, hW.2⟩
  unfold tuErr
  rw [if_pos, run_good h1 h2 h3 h4]
  simp only [liesB, decide_eq_true_eq]
  omega
theorem pl_in {W L U K lf wd x y : Int} {l : List (List Int)} (h : setErr W L l U K = 0) (hm : [lf, wd] ∈ l) (hx : 0 ≤ x ∧ x < wd) (hy : 0 ≤ y ∧ y < K) : plErr lf wd (runW L U K) x y = 0 ∧ plU lf wd false (runW L U K) x y = lf + x ∧ plV lf wd (runW L U K) x y = L - 1 - U - y := by
  have ht := (pl_set h hm).1
  obtain ⟨_, h1, h2, h3, h4⟩ := set_facts h
  have hr := run_good h1 h2 h3 h4
  have ha : atErr (runW L U K) y = 0 := by
    unfold atErr
    rw [if_neg (fun e => e hr), if_pos (by simp only [runW, lenR]; omega)]
  have hp : plErr lf wd (runW L U K) x y = 0 := by
    unfold plErr
    rw [if_neg (fun e => e ht), if_pos hx, ha]
  refine ⟨hp, by unfold plU; rw [if_pos hp]; simp, ?_⟩
  unfold plV
  rw [if_pos hp]
  unfold atV
  rw [if_pos ha]
  simp only [runW, imgAt]
  rw [if_pos hy.2]
  simp only [Option.getD_some, img]
  split
  · omega
  · rename_i hb; simp at hb; omega
theorem pl_out {W L U K lf wd x y : Int} {l : List (List Int)} (h : setErr W L l U K = 0) (hm : [lf, wd] ∈ l) (hx : ¬ ((0 ≤ x ∧ x < wd) ∧ (0 ≤ y ∧ y < K))) : plErr lf wd (runW L U K) x y ≠ 0 := by
  have ht := (pl_set h hm).1
  obtain ⟨_, h1, h2, h3, h4⟩ := set_facts h
  have hr := run_good h1 h2 h3 h4
  unfold plErr
  rw [if_neg (fun e => e ht)]
  split
  · rename_i h5
    unfold atErr
    rw [if_neg (fun e => e hr), if_neg]
    · decide
    · simp only [runW, lenR]; omega
  · decide
theorem setL_at {W L U K : Int} {l : List (List Int)} (h : setErr W L l U K = 0) : setL W L l U K = l.map (fun s => (s.getD 0 0, s.getD 1 0, false, runW L U K)) ∧ (setL W L l U K).length = l.length := by
  unfold setL
  rw [if_pos h]
  exact ⟨rfl, by simp [setOf]⟩
theorem setL_get {W L U K : Int} {l : List (List Int)} (h : setErr W L l U K = 0) {k : Nat} {x y : Int} (hk : l[k]? = some [x, y]) : (setL W L l U K)[k]? = some (x, y, false, runW L U K) := by
  rw [(setL_at h).1, List.getElem?_map, hk]
  rfl
theorem setL_no {W L U K : Int} {l : List (List Int)} (h : ¬ setErr W L l U K = 0) : (setL W L l U K).length = 0 := by
  unfold setL
  rw [if_neg h]
  rfl
/-- Strips and trim from a place on, side by side. -/
structure Cov (W x : Int) (S T : List (List Int)) : Prop where
  eq : trims W x S = T
  lie : ∀ s ∈ S, lies W s
  ap : apart S
  lo : 0 ≤ x
  hi : x ≤ W
  next : ∀ s ∈ S.head?, x ≤ s.getD 0 0
theorem cov_0 {W : Int} {l : List (List Int)} (h : slErr W l = 0) : Cov W 0 l (trimL W l) := by
  obtain ⟨hW, _, hl, ha⟩ := sl_ok h
  refine ⟨by unfold trimL; rw [if_pos h], hl, ha, by omega, by omega, fun s hs => (hl s ?_).1⟩
  cases l with
  | nil => simp at hs
  | cons t l => simp at hs; simp [hs]
theorem apart_tail {s : List Int} {S : List (List Int)} (h : apart (s :: S)) : apart S := by
  cases S with
  | nil => simp [apart]
  | cons t S => exact h.2
theorem cov_strip {W x y : Int} {S T : List (List Int)} (h : Cov W x ([x, y] :: S) T) : Cov W (x + y) S T ∧ x + y ≤ W ∧ 1 ≤ y := by
  obtain ⟨h1, h2, h3, h4, h5, h6⟩ := h
  obtain ⟨k1, k2, k3, k4⟩ := h2 _ (List.mem_cons_self ..)
  simp only [List.getD_cons_zero, List.getD_cons_succ] at k1 k2 k3 k4
  refine ⟨⟨?_, fun s hs => h2 s (List.mem_cons_of_mem _ hs), apart_tail h3, by omega, by omega, ?_⟩, by omega, k2⟩
  · rw [← h1]
    simp [trims]
  · intro s hs
    cases S with
    | nil => simp at hs
    | cons t S => simp at hs; subst hs; simpa using h3.1
theorem cov_gap {W x y z : Int} {S T : List (List Int)} (h : Cov W x ([y, z] :: S) T) (hne : y ≠ x) : ∃ T', T = [x, y - x] :: T' ∧ 0 < y - x ∧ Cov W y ([y, z] :: S) T' ∧ y ≤ W := by
  obtain ⟨h1, h2, h3, h4, h5, h6⟩ := h
  have k := h6 [y, z] (by simp)
  obtain ⟨k1, k2, k3, k4⟩ := h2 _ (List.mem_cons_self ..)
  simp only [List.getD_cons_zero, List.getD_cons_succ] at k k1 k2 k3 k4
  refine ⟨trims W (y + z) S, ?_, by omega, ⟨?_, h2, h3, by omega, by omega, fun s hs => by simp at hs; subst hs; simp⟩, by omega⟩
  · rw [← h1]
    simp only [trims, List.getD_cons_zero, List.getD_cons_succ]
    rw [if_pos (by omega)]
    rfl
  · simp [trims]
theorem cov_last {W x : Int} {T : List (List Int)} (h : Cov W x [] T) : (T = [] ∧ x = W) ∨ (T = [[x, W - x]] ∧ 0 < W - x ∧ Cov W W [] []) := by
  obtain ⟨h1, h2, h3, h4, h5, h6⟩ := h
  simp only [trims] at h1
  split at h1
  · exact .inr ⟨h1.symm, by omega, ⟨by simp [trims], h2, h3, by omega, Int.le_refl _, fun s hs => by simp at hs⟩⟩
  · exact .inl ⟨h1.symm, by omega⟩
/-- What lies behind a strip of strips that lie apart. -/
theorem apart_far : ∀ {S : List (List Int)} {s : List Int} {W : Int}, apart (s :: S) → (∀ t ∈ s :: S, lies W t) → ∀ t ∈ S, s.getD 0 0 + s.getD 1 0 ≤ t.getD 0 0
  | [], _, _, _, _ => by intro t ht; cases ht
  | q :: S, s, W, h, hl => by
    intro t ht
    rcases List.mem_cons.1 ht with rfl | ht
    · exact h.1
    · have h1 := apart_far (S := S) (s := q) (W := W) h.2 (fun r hr => hl r (List.mem_cons_of_mem _ hr)) t ht
      have h2 := h.1
      have h3 := (hl q (by simp)).2.1
      omega
theorem apart_drop : ∀ {l : List (List Int)} (k : Nat), apart l → apart (l.drop k)
  | [], k, _ => by simp [apart]
  | s :: l, 0, h => h
  | s :: l, k + 1, h => by simpa using apart_drop k (apart_tail h)
end Go.Proofs.Ytccgbojcghbdcaa
