/- Chapter 39: strips, the plain part. -/
import Derived.Test.YtccgbojcghbdcaaPat
namespace Go.Proofs.Ytccgbojcghbdcaa
open Go.RowKit

/-- Does a strip lie in a width? -/
def lies (W : Int) (s : List Int) : Prop := 0 ≤ s.getD 0 0 ∧ 1 ≤ s.getD 1 0 ∧ s.getD 0 0 ≤ W ∧ s.getD 1 0 ≤ W - s.getD 0 0
instance (W : Int) (s : List Int) : Decidable (lies W s) := by unfold lies; infer_instance
/-- Does each strip begin where the one before it ends, or later? -/
def apart : List (List Int) → Prop
  | s :: t :: l => s.getD 0 0 + s.getD 1 0 ≤ t.getD 0 0 ∧ apart (t :: l)
  | _ => True
instance : (l : List (List Int)) → Decidable (apart l)
  | [] => by unfold apart; infer_instance
  | [_] => by unfold apart; infer_instance
  | s :: t :: l => by
    have := instDecidableApart (t :: l)
    unfold apart
    infer_instance
def slErr (W : Int) (l : List (List Int)) : Int :=
  if ¬ (1 ≤ W ∧ W ≤ 12000) then 1 else if 12 < l.length then 8 else if ¬ (∀ s ∈ l, lies W s) then 20 else if ¬ apart l then 12 else 0
theorem sl_ok {W : Int} {l : List (List Int)} (h : slErr W l = 0) : (1 ≤ W ∧ W ≤ 12000) ∧ l.length ≤ 12 ∧ (∀ s ∈ l, lies W s) ∧ apart l := by
  unfold slErr at h
  split at h
  · cases h
  · rename_i h1
    split at h
    · cases h
    · rename_i h2
      split at h
      · cases h
      · rename_i h3
        split at h
        · cases h
        · rename_i h4
          exact ⟨Classical.not_not.1 h1, by omega, Classical.not_not.1 h3, Classical.not_not.1 h4⟩
theorem apart_of : ∀ {l : List (List Int)}, (∀ (i : Nat) (s t : List Int), l[i]? = some s → l[i + 1]? = some t → s.getD 0 0 + s.getD 1 0 ≤ t.getD 0 0) → apart l
  | [], _ => by simp [apart]
  | [_], _ => by simp [apart]
  | s :: t :: l, h => ⟨h 0 s t rfl rfl, apart_of (fun i p q hp hq => h (i + 1) p q (by simpa using hp) (by simpa using hq))⟩
theorem apart_at : ∀ {l : List (List Int)}, apart l → ∀ (i : Nat) (s t : List Int), l[i]? = some s → l[i + 1]? = some t → s.getD 0 0 + s.getD 1 0 ≤ t.getD 0 0
  | [], _, i, s, t, hs, _ => by simp at hs
  | [_], _, i, s, t, _, ht => by simp at ht
  | a :: b :: l, h, i, s, t, hs, ht => by
    cases i with
    | zero => simp at hs ht; subst hs ht; exact h.1
    | succ i => exact apart_at h.2 i s t (by simpa using hs) (by simpa using ht)
/-- The strips of a width that are in none of the strips, from a place on. -/
def trims (W : Int) : Int → List (List Int) → List (List Int)
  | a, [] => if a < W then [[a, W - a]] else []
  | a, s :: l => (if a < s.getD 0 0 then [[a, s.getD 0 0 - a]] else []) ++ trims W (s.getD 0 0 + s.getD 1 0) l
def trimL (W : Int) (l : List (List Int)) : List (List Int) := if slErr W l = 0 then trims W 0 l else []
/-- n strips of a width z from the place a on. -/
def same : Nat → Int → Int → List (List Int)
  | 0, _, _ => []
  | n + 1, a, z => [a, z] :: same n (a + z) z
/-- The strips of a pattern, from a place on. -/
def strips : Int → List Int → List Int → List (List Int)
  | a, n :: c, z :: zs => same n.toNat a z ++ strips (a + n.toNat * z) c zs
  | _, _, _ => []
theorem same_two : ∀ (n : Nat) (a z : Int), ∀ s ∈ same n a z, s.length = 2
  | 0, _, _ => by simp [same]
  | n + 1, a, z => by
    intro s hs
    rcases List.mem_cons.1 hs with rfl | hs
    · rfl
    · exact same_two n _ _ s hs
theorem strips_two : ∀ (c zs : List Int) (a : Int), ∀ s ∈ strips a c zs, s.length = 2
  | [], _, _ => by simp [strips]
  | _ :: _, [], _ => by simp [strips]
  | n :: c, z :: zs, a => by
    intro s hs
    rcases List.mem_append.1 hs with hs | hs
    · exact same_two _ _ _ s hs
    · exact strips_two c zs _ s hs
theorem same_len : ∀ (n : Nat) (a z : Int), (same n a z).length = n
  | 0, _, _ => rfl
  | n + 1, a, z => by simp [same, same_len n]
theorem trims_two (W : Int) : ∀ (l : List (List Int)) (a : Int), ∀ s ∈ trims W a l, s.length = 2
  | [], a => by
    intro s hs
    unfold trims at hs
    split at hs
    · simp at hs; subst hs; rfl
    · cases hs
  | t :: l, a => by
    intro s hs
    unfold trims at hs
    rcases List.mem_append.1 hs with hs | hs
    · split at hs
      · simp at hs; subst hs; rfl
      · cases hs
    · exact trims_two W l _ s hs
theorem trims_len (W : Int) : ∀ (l : List (List Int)) (a : Int), (trims W a l).length ≤ l.length + 1
  | [], a => by unfold trims; split <;> simp
  | t :: l, a => by
    have := trims_len W l (t.getD 0 0 + t.getD 1 0)
    unfold trims
    rw [List.length_append, List.length_cons]
    split
    · simp only [List.length_cons, List.length_nil]; omega
    · simp only [List.length_nil]; omega
end Go.Proofs.Ytccgbojcghbdcaa
