/- Rows of pairs of numbers: cells, beginnings. -/
import Derived.Test.YtccgbojcghbdcaaKit
import Derived.Test.YtccgbojcghbdcaaOpen
namespace Go.Proofs.Ytccgbojcghbdcaa
open Go.RowKit

theorem take_more {α : Type} {l : List α} {k : Nat} {p : α} (h : l[k]? = some p) : l.take (k + 1) = l.take k ++ [p] := by
  rw [List.take_add_one, h]; rfl
theorem two_at {rows : List (List Int)} (h : ∀ r ∈ rows, r.length = 2) {k : Nat} (hk : k < rows.length) : ∃ s v : Int, rows[k]? = some [s, v] ∧ (ints rows.flatten)[2 * k]? = some (.int .i64 s) ∧ (ints rows.flatten)[2 * k + 1]? = some (.int .i64 v) := by
  have hg := flatten_get 2 (by decide) rows h
  have hr : rows[k]? = some rows[k] := List.getElem?_eq_getElem hk
  have hm := h rows[k] (List.getElem_mem hk)
  obtain ⟨s, v, e⟩ : ∃ s v, rows[k] = [s, v] := by
    match hrk : rows[k], hm with
    | [s, v], _ => exact ⟨s, v, rfl⟩
  refine ⟨s, v, by rw [hr, e], ?_, ?_⟩
  · rw [ints_get, hg, show 2 * k / 2 = k by omega, hr, e, show 2 * k % 2 = 0 by omega]; rfl
  · rw [ints_get, hg, show (2 * k + 1) / 2 = k by omega, hr, e, show (2 * k + 1) % 2 = 1 by omega]; rfl
theorem cells_at {w : World} {A : Option Addr} {n : Nat} {rows : List (List Int)} (h : Rds Nn w 2 A n (ints rows.flatten)) (t : ∀ r ∈ rows, r.length = 2) (hn : n = rows.length) {k : Nat} (hk : k < n) : ∃ p o, ∃ s v : Int, A = some ⟨p, o, none⟩ ∧ p < w.heap.size ∧ rows[k]? = some [s, v] ∧ ∀ W, Below w.heap.size w W → W.cell? ⟨p, o + k * 2, none⟩ = some (.int .i64 s) ∧ W.cell? ⟨p, o + k * 2 + 1, none⟩ = some (.int .i64 v) := by
  obtain ⟨p, o, rfl, hp, _, hr⟩ := Rds.plain h (by omega) (by decide)
  obtain ⟨s, v, e, e1, e2⟩ := two_at t (k := k) (by omega)
  refine ⟨p, o, s, v, rfl, hp, e, fun W hW => ⟨?_, ?_⟩⟩
  · rw [← hr _ _ e1, Nat.mul_comm]; exact World.cell?_of_block (hW.block _ hp)
  · rw [← hr _ _ e2, Nat.mul_comm]; exact World.cell?_of_block (hW.block _ hp)
theorem Rds.pairAt (w : World) (b : Nat) (x y : Value) (t : TypeId) (hb : b = w.heap.size) : Rds Nn (w.alloc (.cells #[x, y] t)) 2 (some ⟨b, 0, none⟩) 1 [x, y] := by
  subst hb
  refine ⟨rfl, fun _ => ⟨_, rfl, by simp, id, fun j u hu => ?_⟩⟩
  match j, hu with
  | 0, hu => simp at hu; subst hu; rw [add_at, (Blk.new w t #[x, y]).cell]; rfl
  | 1, hu => simp at hu; subst hu; rw [add_at, (Blk.new w t #[x, y]).cell]; rfl
  | j + 2, hu => simp at hu
theorem flat_take : ∀ (S : List (List Int)) (k : Nat), (∀ r ∈ S, r.length = 2) → S.flatten.take (k * 2) = (S.take k).flatten
  | [], k, _ => by simp
  | r :: S, 0, _ => by simp
  | r :: S, k + 1, h => by
    have hr := h r (by simp)
    rw [List.flatten_cons, List.take_succ_cons, List.flatten_cons, ← flat_take S k (fun q hq => h q (by simp [hq])), List.take_append, List.take_of_length_le (by omega), hr, show (k + 1) * 2 - 2 = k * 2 by omega]
theorem Rds.rowsCut {w : World} {A : Option Addr} {n : Nat} {S : List (List Int)} (h : Rds Nn w 2 A n (ints S.flatten)) (t : ∀ r ∈ S, r.length = 2) {k : Nat} (hk : k ≤ n) : Rds Nn w 2 A k (ints (S.take k).flatten) := by
  have := Rds.take h hk
  rw [← flat_take S k t]
  unfold ints at this ⊢
  rw [List.map_take]
  exact this
theorem take_two {S : List (List Int)} (t : ∀ r ∈ S, r.length = 2) (k : Nat) : ∀ r ∈ S.take k, r.length = 2 := fun r hr => t r (List.mem_of_mem_take hr)
end Go.Proofs.Ytccgbojcghbdcaa
