/- Rows of numbers that come in, read one by one. -/
import Derived.Test.YtddphdkhaaolmaaOpen
namespace Go.Proofs.Ytddphdkhaaolmaa
open Go.RowKit
theorem cell_below {w w' : World} {B : Nat} {a : Addr} (h : Below B w w') (ha : a.block < B) : w'.cell? a = w.cell? a := World.cell?_of_block (h.block _ ha)
theorem cell_alloc {w : World} {a : Addr} {u : Value} {o : Obj} (h : w.cell? a = some u) (ha : a.block < w.heap.size) : (w.alloc o).cell? a = some u := (cell_below ((Below.refl _ w).alloc (Nat.le_refl _) o) ha).trans h
theorem cell_two {w : World} {a p q : Addr} {u x y : Value} (h : w.cell? a = some u) (hp : a.block < p.block ∧ a.block < q.block) : ((w.setCell p x).setCell q y).cell? a = some u := (cell_below (((Below.refl (a.block + 1) w).setCell hp.1 x).setCell hp.2 y) (Nat.lt_succ_self _)).trans h
theorem pair_at {rows : List (List Int)} (h : ∀ r ∈ rows, r.length = 2 ∧ ∀ n ∈ r, (Lit.int .i64 n).wf = true) {k : Nat} (hk : k < rows.length) : ∃ s v : Int, rows[k]? = some [s, v] ∧ (ints rows.flatten)[2 * k]? = some (.int .i64 s) ∧ (ints rows.flatten)[2 * k + 1]? = some (.int .i64 v) ∧ (Lit.int .i64 s).wf = true ∧ (Lit.int .i64 v).wf = true := by
  have hg := flatten_get 2 (by decide) rows (fun r hr => (h r hr).1)
  have hr : rows[k]? = some rows[k] := List.getElem?_eq_getElem hk
  have hm := h rows[k] (List.getElem_mem hk)
  obtain ⟨s, v, e⟩ : ∃ s v, rows[k] = [s, v] := by
    match hrk : rows[k], hm.1 with
    | [s, v], _ => exact ⟨s, v, rfl⟩
  refine ⟨s, v, by rw [hr, e], ?_, ?_, hm.2 s (by rw [e]; simp), hm.2 v (by rw [e]; simp)⟩
  · rw [ints_get, hg, show 2 * k / 2 = k by omega, hr, e, show 2 * k % 2 = 0 by omega]; rfl
  · rw [ints_get, hg, show (2 * k + 1) / 2 = k by omega, hr, e, show (2 * k + 1) % 2 = 1 by omega]; rfl
theorem triple_at {rows : List (List Int)} (h : ∀ r ∈ rows, r.length = 3 ∧ ∀ n ∈ r, (Lit.int .i64 n).wf = true) {k : Nat} (hk : k < rows.length) : ∃ s v u : Int, rows[k]? = some [s, v, u] ∧ (ints rows.flatten)[3 * k]? = some (.int .i64 s) ∧ (ints rows.flatten)[3 * k + 1]? = some (.int .i64 v) ∧ (ints rows.flatten)[3 * k + 2]? = some (.int .i64 u) ∧ (Lit.int .i64 s).wf = true ∧ (Lit.int .i64 v).wf = true ∧ (Lit.int .i64 u).wf = true := by
  have hg := flatten_get 3 (by decide) rows (fun r hr => (h r hr).1)
  have hr : rows[k]? = some rows[k] := List.getElem?_eq_getElem hk
  have hm := h rows[k] (List.getElem_mem hk)
  obtain ⟨s, v, u, e⟩ : ∃ s v u, rows[k] = [s, v, u] := by
    match hrk : rows[k], hm.1 with
    | [s, v, u], _ => exact ⟨s, v, u, rfl⟩
  refine ⟨s, v, u, by rw [hr, e], ?_, ?_, ?_, hm.2 s (by rw [e]; simp), hm.2 v (by rw [e]; simp), hm.2 u (by rw [e]; simp)⟩
  · rw [ints_get, hg, show 3 * k / 3 = k by omega, hr, e, show 3 * k % 3 = 0 by omega]; rfl
  · rw [ints_get, hg, show (3 * k + 1) / 3 = k by omega, hr, e, show (3 * k + 1) % 3 = 1 by omega]; rfl
  · rw [ints_get, hg, show (3 * k + 2) / 3 = k by omega, hr, e, show (3 * k + 2) % 3 = 2 by omega]; rfl
end Go.Proofs.Ytddphdkhaaolmaa
