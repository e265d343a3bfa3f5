/- Chapter 38: patterns, the plain part. -/
import Derived.Test.YtccgbojcghbdcaaSeq
namespace Go.Proofs.Ytccgbojcghbdcaa
open Go.RowKit

/-- n, n - 1, .. 0. -/
def down : Nat → List Int
  | 0 => [0]
  | n + 1 => ((n : Int) + 1) :: down n
def downI (m : Int) : List Int := if m < 0 then [] else down m.toNat
theorem downI_neg {m : Int} (h : m < 0) : downI m = [] := by unfold downI; rw [if_pos h]
theorem downI_step {m : Int} (h : 0 ≤ m) : downI m = m :: downI (m - 1) := by
  obtain ⟨n, rfl⟩ := Int.eq_ofNat_of_zero_le h
  unfold downI
  rw [if_neg (by omega), Int.toNat_natCast]
  cases n with
  | zero => rfl
  | succ n =>
    rw [if_neg (by omega), show (((n + 1 : Nat) : Int) - 1).toNat = n by omega]
    simp [down]
theorem mem_down {x : Int} : ∀ {n : Nat}, x ∈ down n ↔ 0 ≤ x ∧ x ≤ n
  | 0 => by simp [down]; omega
  | n + 1 => by
    simp only [down, List.mem_cons, mem_down (n := n)]
    omega
theorem mem_downI {x m : Int} : x ∈ downI m ↔ 0 ≤ x ∧ x ≤ m := by
  unfold downI
  split
  · simp; omega
  · rw [mem_down]; omega
/-- The patterns of the sizes zs with at most k pieces on a width l, the greatest one first. -/
def pat (T K : Int) : List Int → Int → Int → List (List Int)
  | [], k, l => if l ≤ T ∧ k < K then [[]] else []
  | z :: zs, k, l => (downI (min k (l / z))).flatMap fun n => (pat T K zs (k - n) (l - n * z)).map (n :: ·)
def ext (pre : List Int) (L : List (List Int)) : List (List Int) := L.map (pre ++ ·)
theorem ext_nil (L : List (List Int)) : ext [] L = L := by simp [ext]
/-- What one number of the next size adds. -/
def sub (T K : Int) (zs pre : List Int) (k l z n : Int) : List (List Int) := ext (pre ++ [n]) (pat T K zs (k - n) (l - n * z))
theorem ext_pat (T K : Int) (z : Int) (zs pre : List Int) (k l : Int) : ext pre (pat T K (z :: zs) k l) = (downI (min k (l / z))).flatMap (sub T K zs pre k l z) := by
  unfold ext sub
  rw [pat, List.map_flatMap]
  congr 1
  funext n
  simp [ext]
theorem ext_leaf (T K : Int) (pre : List Int) (k l : Int) : ext pre (pat T K [] k l) = if l ≤ T ∧ k < K then [pre] else [] := by
  unfold ext pat
  split
  · simp
  · rfl
theorem take_app {α : Type} (m : Nat) (X Y : List α) : (X.take m ++ Y).take m = (X ++ Y).take m := by
  rw [List.take_append, List.take_append, List.take_take, Nat.min_self, List.length_take]
  rcases Nat.le_total X.length m with h | h
  · rw [Nat.min_eq_right h]
  · rw [Nat.min_eq_left h, Nat.sub_self, show m - X.length = 0 by omega]
/-- One round of the loop over the numbers of a size. -/
theorem round_take {m : Nat} {L R : List (List Int)} {f : Int → List (List Int)} {n : Int} (hn : 0 ≤ n) (h : (L ++ (downI n).flatMap f).take m = R) : ((L ++ f n).take m ++ (downI (n - 1)).flatMap f).take m = R := by
  rw [take_app, ← h, downI_step hn, List.flatMap_cons, List.append_assoc]
theorem pat_prune {T K z : Int} (hz : 1 ≤ z) : ∀ (zs : List Int) (k l : Int), 0 ≤ k → (∀ y ∈ zs, 1 ≤ y ∧ y ≤ z) → T < l - k * z → pat T K zs k l = []
  | [], k, l, hk, _, h => by
    have := Int.mul_nonneg hk (show 0 ≤ z by omega)
    unfold pat
    rw [if_neg (by omega)]
  | y :: zs, k, l, hk, hzs, h => by
    unfold pat
    rw [List.flatMap_eq_nil_iff]
    intro n hn
    rw [mem_downI] at hn
    have hy := hzs y (by simp)
    have h1 : n * y ≤ n * z := Int.mul_le_mul_of_nonneg_left hy.2 hn.1
    have h2 : (k - n) * z = k * z - n * z := Int.sub_mul _ _ _
    rw [pat_prune hz zs (k - n) (l - n * y) (by omega) (fun q hq => hzs q (by simp [hq])) (by omega)]
    rfl
def sumI : List Int → Int
  | [] => 0
  | n :: c => n + sumI c
def dot : List Int → List Int → Int
  | n :: c, z :: zs => n * z + dot c zs
  | _, _ => 0
theorem sumI_nonneg : ∀ {c : List Int}, (∀ n ∈ c, 0 ≤ n) → 0 ≤ sumI c
  | [], _ => by simp [sumI]
  | n :: c, h => by
    have := sumI_nonneg (c := c) (fun q hq => h q (by simp [hq]))
    have := h n (by simp)
    simp only [sumI]
    omega
theorem dot_nonneg : ∀ {c zs : List Int}, (∀ n ∈ c, 0 ≤ n) → (∀ z ∈ zs, 1 ≤ z) → 0 ≤ dot c zs
  | [], _, _, _ => by simp [dot]
  | _ :: _, [], _, _ => by simp [dot]
  | n :: c, z :: zs, h, g => by
    have h1 := dot_nonneg (c := c) (zs := zs) (fun q hq => h q (by simp [hq])) (fun q hq => g q (by simp [hq]))
    have h2 := Int.mul_nonneg (h n (by simp)) (show 0 ≤ z by have := g z (by simp); omega)
    simp only [dot]
    omega
theorem le_div {n l z : Int} (hz : 1 ≤ z) : n ≤ l / z ↔ n * z ≤ l := Int.le_ediv_iff_mul_le (by omega)
theorem mem_pat {T K : Int} : ∀ (zs : List Int) (k l : Int) (c : List Int), 0 ≤ k → 0 ≤ l → (∀ z ∈ zs, 1 ≤ z) → (c ∈ pat T K zs k l ↔ c.length = zs.length ∧ (∀ n ∈ c, 0 ≤ n) ∧ sumI c ≤ k ∧ dot c zs ≤ l ∧ l - dot c zs ≤ T ∧ k - sumI c < K)
  | [], k, l, c, hk, hl, _ => by
    unfold pat
    cases c with
    | nil =>
      split
      · rename_i h; simp [sumI, dot]; omega
      · rename_i h; simp [sumI, dot]; omega
    | cons n c => split <;> simp
  | z :: zs, k, l, c, hk, hl, hzs => by
    have hz := hzs z (by simp)
    have hzs2 : ∀ q ∈ zs, 1 ≤ q := fun q hq => hzs q (by simp [hq])
    unfold pat
    rw [List.mem_flatMap]
    constructor
    · rintro ⟨n, hn, hc⟩
      rw [mem_downI] at hn
      obtain ⟨c', hc', rfl⟩ := List.mem_map.1 hc
      have hnz : n * z ≤ l := (le_div hz).1 (by omega)
      obtain ⟨h1, h2, h3, h4, h5, h6⟩ := (mem_pat zs (k - n) (l - n * z) c' (by omega) (by omega) hzs2).1 hc'
      refine ⟨by simp [h1], fun q hq => ?_, ?_, ?_, ?_, ?_⟩
      · rcases List.mem_cons.1 hq with rfl | hq
        · exact hn.1
        · exact h2 q hq
      all_goals simp only [sumI, dot]
      all_goals omega
    · rintro ⟨h1, h2, h3, h4, h5, h6⟩
      cases c with
      | nil => simp at h1
      | cons n c' =>
        have hn := h2 n (by simp)
        have h2' : ∀ q ∈ c', 0 ≤ q := fun q hq => h2 q (by simp [hq])
        have s := sumI_nonneg h2'
        have d := dot_nonneg h2' hzs2
        simp only [sumI, dot] at h3 h4 h5 h6
        have hnz : n ≤ l / z := (le_div hz).2 (by omega)
        refine ⟨n, mem_downI.2 ⟨hn, by omega⟩, List.mem_map.2 ⟨c', (mem_pat zs (k - n) (l - n * z) c' (by omega) (by omega) hzs2).2 ⟨by simpa using h1, h2', by omega, by omega, by omega, by omega⟩, rfl⟩⟩
/-- Lexicographically greater. -/
def gtL : List Int → List Int → Prop
  | a :: x, b :: y => b < a ∨ (a = b ∧ gtL x y)
  | _, _ => False
theorem gtL_irr : ∀ x : List Int, ¬ gtL x x
  | [] => by simp [gtL]
  | a :: x => by
    have := gtL_irr x
    simp only [gtL]
    rintro (h | ⟨_, h⟩)
    · omega
    · exact this h
theorem down_desc : ∀ n : Nat, (down n).Pairwise (fun a b => b < a)
  | 0 => by simp [down]
  | n + 1 => by
    rw [down, List.pairwise_cons]
    exact ⟨fun x hx => by have := (mem_down.1 hx).2; omega, down_desc n⟩
theorem downI_desc (m : Int) : (downI m).Pairwise (fun a b => b < a) := by
  unfold downI
  split
  · exact List.Pairwise.nil
  · exact down_desc _
theorem pat_desc {T K : Int} : ∀ (zs : List Int) (k l : Int), (pat T K zs k l).Pairwise gtL
  | [], k, l => by unfold pat; split <;> simp
  | z :: zs, k, l => by
    unfold pat
    rw [List.pairwise_flatMap]
    refine ⟨fun n _ => ?_, (downI_desc _).imp ?_⟩
    · rw [List.pairwise_map]
      exact (pat_desc zs (k - n) (l - n * z)).imp (fun h => .inr ⟨rfl, h⟩)
    · intro a b hab x hx y hy
      obtain ⟨x', _, rfl⟩ := List.mem_map.1 hx
      obtain ⟨y', _, rfl⟩ := List.mem_map.1 hy
      exact .inl hab
/-- The errors of a deckle but for the number of patterns. -/
def us (W E : Int) : Int := W - 2 * E
def dkErr (W E T K : Int) (zs : List Int) : Int :=
  if ¬ (1 ≤ W ∧ W ≤ 12000 ∧ 0 ≤ E ∧ E ≤ (W - 1) / 2 ∧ 0 ≤ T ∧ T ≤ W ∧ 1 ≤ K ∧ K ≤ 12) then 1
  else if zs.length = 0 then 10
  else if 8 < zs.length then 8
  else if ¬ (∀ z ∈ zs, 1 ≤ z ∧ z ≤ us W E) then 20
  else if ¬ (zs.Pairwise (fun a b => b < a)) then 9
  else 0
/-- What a deckle that is right says. -/
structure Right (W E T K : Int) (zs : List Int) : Prop where
  w : 1 ≤ W ∧ W ≤ 12000
  e : 0 ≤ E ∧ E ≤ (W - 1) / 2
  t : 0 ≤ T ∧ T ≤ W
  k : 1 ≤ K ∧ K ≤ 12
  n : 1 ≤ zs.length ∧ zs.length ≤ 8
  z : ∀ z ∈ zs, 1 ≤ z ∧ z ≤ us W E
  o : zs.Pairwise (fun a b => b < a)
theorem dk_right {W E T K : Int} {zs : List Int} (h : dkErr W E T K zs = 0) : Right W E T K zs := by
  unfold dkErr at h
  split at h
  · cases h
  · rename_i h1
    split at h
    · cases h
    · rename_i h2
      split at h
      · cases h
      · rename_i h3
        split at h
        · cases h
        · rename_i h4
          split at h
          · cases h
          · rename_i h5
            have h1 := Classical.not_not.1 h1
            exact ⟨⟨h1.1, h1.2.1⟩, ⟨h1.2.2.1, h1.2.2.2.1⟩, ⟨h1.2.2.2.2.1, h1.2.2.2.2.2.1⟩, h1.2.2.2.2.2.2, ⟨by omega, by omega⟩, Classical.not_not.1 h4, Classical.not_not.1 h5⟩
/-- All patterns of a deckle. -/
def pats (W E T K : Int) (zs : List Int) : List (List Int) := pat T K zs K (us W E)
def chkErr (W E T K : Int) (zs : List Int) : Int := if dkErr W E T K zs ≠ 0 then dkErr W E T K zs else if 1024 < (pats W E T K zs).length then 8 else 0
theorem chk_ok {W E T K : Int} {zs : List Int} (h : chkErr W E T K zs = 0) : dkErr W E T K zs = 0 ∧ (pats W E T K zs).length ≤ 1024 := by
  unfold chkErr at h
  split at h
  · rename_i hq; exact absurd h hq
  · rename_i hq
    split at h
    · cases h
    · exact ⟨by simpa using hq, by omega⟩
/-- The errors of a pattern, of a deckle that is right. -/
def fitErr (W E T K : Int) (zs c : List Int) : Int :=
  if c.length ≠ zs.length then 3
  else if ¬ (∀ n ∈ c, 0 ≤ n) then 1
  else if sumI c = 0 then 10
  else if K < sumI c then 23
  else if us W E < dot c zs then 20
  else if T < us W E - dot c zs then 24
  else 0
theorem fit_ok {W E T K : Int} {zs c : List Int} (h : fitErr W E T K zs c = 0) : c.length = zs.length ∧ (∀ n ∈ c, 0 ≤ n) ∧ sumI c ≠ 0 ∧ sumI c ≤ K ∧ dot c zs ≤ us W E ∧ us W E - dot c zs ≤ T := by
  unfold fitErr at h
  split at h
  · cases h
  · rename_i h1
    split at h
    · cases h
    · rename_i h2
      split at h
      · cases h
      · rename_i h3
        split at h
        · cases h
        · rename_i h4
          split at h
          · cases h
          · rename_i h5
            split at h
            · cases h
            · exact ⟨Classical.not_not.1 h1, Classical.not_not.1 h2, h3, by omega, by omega, by omega⟩
theorem us_pos {W E T K : Int} {zs : List Int} (h : Right W E T K zs) : 1 ≤ us W E ∧ us W E ≤ 12000 := by
  have h1 := h.w
  have h2 := h.e
  unfold us
  omega
/-- Exactly the patterns that fit are listed. -/
theorem mem_pats {W E T K : Int} {zs c : List Int} (h : Right W E T K zs) : c ∈ pats W E T K zs ↔ fitErr W E T K zs c = 0 := by
  have hu := us_pos h
  have hk := h.k
  unfold pats
  rw [mem_pat zs K (us W E) c (by omega) (by omega) (fun z hz => (h.z z hz).1)]
  constructor
  · rintro ⟨h1, h2, h3, h4, h5, h6⟩
    have := sumI_nonneg h2
    unfold fitErr
    rw [if_neg (fun e => e h1), if_neg (fun e => e h2), if_neg (by omega), if_neg (by omega), if_neg (by omega), if_neg (by omega)]
  · intro hf
    obtain ⟨h1, h2, h3, h4, h5, h6⟩ := fit_ok hf
    have := sumI_nonneg h2
    exact ⟨h1, h2, h4, h5, h6, by omega⟩
theorem pats_desc (W E T K : Int) (zs : List Int) : (pats W E T K zs).Pairwise gtL := pat_desc _ _ _
theorem pats_at {W E T K : Int} {zs c : List Int} {i j : Nat} (hi : (pats W E T K zs)[i]? = some c) (hj : (pats W E T K zs)[j]? = some c) : i = j := by
  have hp := List.pairwise_iff_getElem.1 (pats_desc W E T K zs)
  obtain ⟨hi1, hi2⟩ := List.getElem?_eq_some_iff.1 hi
  obtain ⟨hj1, hj2⟩ := List.getElem?_eq_some_iff.1 hj
  rcases Nat.lt_trichotomy i j with h | h | h
  · have := hp i j hi1 hj1 h
    rw [hi2, hj2] at this
    exact absurd this (gtL_irr c)
  · exact h
  · have := hp j i hj1 hi1 h
    rw [hi2, hj2] at this
    exact absurd this (gtL_irr c)
end Go.Proofs.Ytccgbojcghbdcaa
