/- Chapter 39: the strips of a pattern, the plain part. -/
import Derived.Test.YtccgbojcghbdcaaSlit
namespace Go.Proofs.Ytccgbojcghbdcaa
open Go.RowKit

theorem strips_len : ∀ (cs zs : List Int) (a : Int), (∀ n ∈ cs, 0 ≤ n) → cs.length = zs.length → ((strips a cs zs).length : Int) = sumI cs
  | [], [], _, _, _ => by simp [strips, sumI]
  | n :: cs, z :: zs, a, h, hl => by
    have ih := strips_len cs zs (a + n.toNat * z) (fun q hq => h q (by simp [hq])) (by simpa using hl)
    have hn := h n (by simp)
    simp only [strips, sumI, List.length_append, same_len]
    omega
def sumW : List (List Int) → Int
  | [] => 0
  | s :: l => s.getD 1 0 + sumW l
theorem sumW_app : ∀ (l m : List (List Int)), sumW (l ++ m) = sumW l + sumW m
  | [], m => by simp [sumW]
  | s :: l, m => by simp [sumW, sumW_app l m]; omega
/-- Strips that lie side by side, from a place on. -/
def contig : Int → List (List Int) → Prop
  | _, [] => True
  | a, s :: l => s.getD 0 0 = a ∧ 1 ≤ s.getD 1 0 ∧ contig (a + s.getD 1 0) l
theorem contig_app : ∀ {l m : List (List Int)} {a : Int}, contig a l → contig (a + sumW l) m → contig a (l ++ m)
  | [], m, a, _, h => by simpa [sumW] using h
  | s :: l, m, a, h1, h2 => by
    obtain ⟨h3, h4, h5⟩ := h1
    refine ⟨h3, h4, contig_app h5 ?_⟩
    simp only [sumW] at h2
    rw [show a + s.getD 1 0 + sumW l = a + (s.getD 1 0 + sumW l) by omega]
    exact h2
theorem same_sum : ∀ (n : Nat) (a z : Int), sumW (same n a z) = n * z
  | 0, _, _ => by simp [same, sumW]
  | n + 1, a, z => by
    have e : ((n + 1 : Nat) : Int) * z = n * z + z := by rw [Int.natCast_add, Int.add_mul]; simp
    simp only [same, sumW, same_sum n (a + z) z, e, List.getD_cons_succ, List.getD_cons_zero]
    omega
theorem same_contig : ∀ (n : Nat) (a z : Int), 1 ≤ z → contig a (same n a z)
  | 0, _, _, _ => trivial
  | n + 1, a, z, h => ⟨rfl, h, same_contig n (a + z) z h⟩
theorem strips_sum : ∀ (cs zs : List Int) (a : Int), (∀ n ∈ cs, 0 ≤ n) → cs.length = zs.length → sumW (strips a cs zs) = dot cs zs
  | [], [], _, _, _ => by simp [strips, sumW, dot]
  | n :: cs, z :: zs, a, h, hl => by
    have ih := strips_sum cs zs (a + n.toNat * z) (fun q hq => h q (by simp [hq])) (by simpa using hl)
    have hn := h n (by simp)
    have e : ((n.toNat : Nat) : Int) = n := by omega
    rw [e] at ih
    simp only [strips, dot, sumW_app, same_sum, e, ih]
theorem strips_contig : ∀ (cs zs : List Int) (a : Int), (∀ z ∈ zs, 1 ≤ z) → contig a (strips a cs zs)
  | [], _, _, _ => by simp [strips, contig]
  | _ :: _, [], _, _ => by simp [strips, contig]
  | n :: cs, z :: zs, a, h => by
    refine contig_app (same_contig _ _ _ (h z (by simp))) ?_
    rw [same_sum]
    exact strips_contig cs zs _ (fun q hq => h q (by simp [hq]))
theorem sumW_pos : ∀ {l : List (List Int)} {a : Int}, contig a l → 0 ≤ sumW l
  | [], _, _ => by simp [sumW]
  | s :: l, a, h => by
    have := sumW_pos h.2.2
    have := h.2.1
    simp only [sumW]
    omega
theorem contig_lies : ∀ {l : List (List Int)} {a W : Int}, contig a l → 0 ≤ a → a + sumW l ≤ W → ∀ s ∈ l, lies W s
  | [], _, _, _, _, _ => by intro s hs; cases hs
  | s :: l, a, W, h, h0, h1 => by
    obtain ⟨h3, h4, h5⟩ := h
    have hp := sumW_pos h5
    simp only [sumW] at h1
    intro q hq
    rcases List.mem_cons.1 hq with rfl | hq
    · unfold lies
      rw [h3]
      omega
    · exact contig_lies h5 (by omega) (by omega) q hq
theorem contig_apart : ∀ {l : List (List Int)} {a : Int}, contig a l → apart l
  | [], _, _ => by simp [apart]
  | [_], _, _ => by simp [apart]
  | s :: t :: l, a, h => by
    obtain ⟨h3, h4, h5⟩ := h
    refine ⟨?_, contig_apart h5⟩
    have := h5.1
    omega
theorem trims_contig : ∀ {l : List (List Int)} {a W : Int}, contig a l → trims W a l = trims W (a + sumW l) []
  | [], a, W, _ => by simp [sumW]
  | s :: l, a, W, h => by
    obtain ⟨h3, h4, h5⟩ := h
    have ih := trims_contig (W := W) h5
    have q : trims W a (s :: l) = trims W (s.getD 0 0 + s.getD 1 0) l := by
      simp only [trims]
      rw [if_neg (by omega), List.nil_append]
    rw [q, h3, ih]
    simp only [sumW]
    rw [show a + s.getD 1 0 + sumW l = a + (s.getD 1 0 + sumW l) by omega]
theorem trims_end {W a : Int} (h : a ≤ W) : sumW (trims W a []) = W - a := by
  unfold trims
  split
  · simp [sumW]
  · simp [sumW]; omega
theorem trims_sum {l : List (List Int)} {E W : Int} (h : contig E l) (hE : 0 ≤ E) (hl : 1 ≤ l.length) (hW : E + sumW l ≤ W) : sumW (trims W 0 l) = W - sumW l := by
  match l, h, hl, hW with
  | s :: l, h, _, hW =>
    obtain ⟨h3, h4, h5⟩ := h
    simp only [sumW] at hW ⊢
    rw [trims, sumW_app, h3, trims_contig h5, trims_end (by omega)]
    split <;> simp [sumW] <;> omega
end Go.Proofs.Ytccgbojcghbdcaa
