/- Chapter 39: runs, the plain part, and rows of runs. -/
import Derived.Test.YtccgbojcghbdcaaPairs
namespace Go.Proofs.Ytccgbojcghbdcaa
open Go.RowKit Go.ChangeShapes Go.WideShapes Go.Deep

/-- A run: where, how long, backwards? -/
abbrev Ru := Int × Int × Bool
def runOk (r : Ru) : Bool := decide (1 ≤ r.2.1 ∧ r.2.1 ≤ 17179869184 ∧ 0 ≤ r.1 ∧ r.1 < 17179869184 ∧ (r.2.2 = true → 0 ≤ r.1 - r.2.1 + 1) ∧ (r.2.2 = false → r.1 + r.2.1 ≤ 17179869184))
theorem run_no {x y : Int} {b : Bool} (h : runOk (x, y, b) = false) : y < 1 ∨ (1 ≤ y ∧ 17179869184 < y) ∨ ((1 ≤ y ∧ y ≤ 17179869184) ∧ x < 0) ∨ ((1 ≤ y ∧ y ≤ 17179869184) ∧ 0 ≤ x ∧ 17179869184 ≤ x) ∨ (((1 ≤ y ∧ y ≤ 17179869184) ∧ 0 ≤ x ∧ x < 17179869184) ∧ ((b = true ∧ x - y + 1 < 0) ∨ (b = false ∧ 17179869184 < x + y))) := by
  cases b <;> simp [runOk] at h ⊢ <;> omega
theorem run_yes {x y : Int} {b : Bool} (h : runOk (x, y, b) = true) : (1 ≤ y ∧ y ≤ 17179869184) ∧ (0 ≤ x ∧ x < 17179869184) ∧ (b = true → 0 ≤ x - y + 1) ∧ (b = false → x + y ≤ 17179869184) := by
  cases b <;> simp [runOk] at h ⊢ <;> omega
def lenR : List Ru → Int
  | [] => 0
  | r :: m => r.2.1 + lenR m
def runErr (m : List Ru) : Int := if 256 < m.length then 8 else if ¬ (∀ r ∈ m, runOk r = true) then 1 else if 17179869184 < lenR m then 21 else 0
theorem re_8 {m : List Ru} (h : 256 < m.length) : 8 = runErr m := by unfold runErr; rw [if_pos h]
theorem re_1 {m : List Ru} (h : m.length ≤ 256) {r : Ru} (hr : r ∈ m) (hn : runOk r = false) : 1 = runErr m := by
  unfold runErr
  rw [if_neg (by omega), if_pos (fun e => by have := e r hr; rw [hn] at this; cases this)]
theorem re_21 {m : List Ru} (h : m.length ≤ 256) (hr : ∀ r ∈ m, runOk r = true) (hl : 17179869184 < lenR m) : 21 = runErr m := by
  unfold runErr
  rw [if_neg (by omega), if_neg (fun e => e hr), if_pos hl]
theorem re_0 {m : List Ru} (h : m.length ≤ 256) (hr : ∀ r ∈ m, runOk r = true) (hl : lenR m ≤ 17179869184) : 0 = runErr m := by
  unfold runErr
  rw [if_neg (by omega), if_neg (fun e => e hr), if_neg (by omega)]
theorem re_ok {m : List Ru} (h : runErr m = 0) : m.length ≤ 256 ∧ (∀ r ∈ m, runOk r = true) ∧ lenR m ≤ 17179869184 := by
  unfold runErr at h
  split at h
  · cases h
  · rename_i h1
    split at h
    · cases h
    · rename_i h2
      split at h
      · cases h
      · exact ⟨by omega, Classical.not_not.1 h2, by omega⟩
def img (r : Ru) (x : Int) : Int := if r.2.2 then r.1 - x else r.1 + x
def imgAt : List Ru → Int → Option Int
  | [], _ => none
  | r :: m, x => if x < r.2.1 then some (img r x) else imgAt m (x - r.2.1)
def atErr (m : List Ru) (x : Int) : Int := if runErr m ≠ 0 then runErr m else if 0 ≤ x ∧ x < lenR m then 0 else 1
def atV (m : List Ru) (x : Int) : Int := if atErr m x = 0 then (imgAt m x).getD 0 else 0
theorem lenR_app : ∀ (a b : List Ru), lenR (a ++ b) = lenR a + lenR b
  | [], b => by simp [lenR]
  | r :: a, b => by simp only [List.cons_append, lenR, lenR_app a b]; omega
theorem lenR_snoc {m : List Ru} {k : Nat} {r : Ru} (h : m[k]? = some r) : lenR (m.take (k + 1)) = lenR (m.take k) + r.2.1 := by
  rw [take_more h, lenR_app]; simp [lenR]
theorem lenR_pos : ∀ {m : List Ru}, (∀ r ∈ m, runOk r = true) → 0 ≤ lenR m ∧ lenR m ≤ m.length * 17179869184
  | [], _ => by simp [lenR]
  | (x, y, b) :: m, h => by
    have h1 := run_yes (h (x, y, b) (by simp))
    have h2 := lenR_pos (m := m) (fun r hr => h r (by simp [hr]))
    simp only [lenR, List.length_cons]
    omega
theorem lenR_split (m : List Ru) (k : Nat) : lenR m = lenR (m.take k) + lenR (m.drop k) := by rw [← lenR_app, List.take_append_drop]
/-- The cells of a row of runs. -/
def cellsR : List Ru → List Value
  | [] => []
  | r :: m => .int .i64 r.1 :: .int .i64 r.2.1 :: .bool r.2.2 :: cellsR m
theorem cellsR_len : ∀ m : List Ru, (cellsR m).length = m.length * 3
  | [] => rfl
  | r :: m => by simp only [cellsR, List.length_cons, cellsR_len m]; omega
theorem cellsR_app : ∀ a b : List Ru, cellsR (a ++ b) = cellsR a ++ cellsR b
  | [], b => rfl
  | r :: a, b => by simp only [List.cons_append, cellsR, cellsR_app a b]
theorem cellsR_get : ∀ {m : List Ru} {k : Nat} {r : Ru}, m[k]? = some r → (cellsR m)[3 * k]? = some (.int .i64 r.1) ∧ (cellsR m)[3 * k + 1]? = some (.int .i64 r.2.1) ∧ (cellsR m)[3 * k + 2]? = some (.bool r.2.2)
  | [], k, r, h => by simp at h
  | q :: m, 0, r, h => by simp at h; subst h; exact ⟨rfl, rfl, rfl⟩
  | q :: m, k + 1, r, h => by
    have h1 := cellsR_get (m := m) (k := k) (r := r) (by simpa using h)
    rw [show 3 * (k + 1) = 3 * k + 3 by omega, show 3 * k + 3 + 1 = 3 * k + 1 + 3 by omega, show 3 * k + 3 + 2 = 3 * k + 2 + 3 by omega]
    simp only [cellsR]
    exact h1
theorem run_at {w : World} {A : Option Addr} {n : Nat} {m : List Ru} (h : Rds Nn w 3 A n (cellsR m)) (hn : n = m.length) {k : Nat} (hk : k < n) : ∃ p o, ∃ x y : Int, ∃ b : Bool, A = some ⟨p, o, none⟩ ∧ p < w.heap.size ∧ m[k]? = some (x, y, b) ∧ ∀ W, Below w.heap.size w W → W.cell? ⟨p, o + k * 3, none⟩ = some (.int .i64 x) ∧ W.cell? ⟨p, o + k * 3 + 1, none⟩ = some (.int .i64 y) ∧ W.cell? ⟨p, o + k * 3 + 2, none⟩ = some (.bool b) := by
  obtain ⟨p, o, rfl, hp, _, hr⟩ := Rds.plain h (by omega) (by decide)
  obtain ⟨x, y, b⟩ : Ru := m[k]'(by omega)
  have hm : m[k]? = some (m[k]'(by omega)) := List.getElem?_eq_getElem (by omega)
  obtain ⟨e1, e2, e3⟩ := cellsR_get hm
  refine ⟨p, o, (m[k]'(by omega)).1, (m[k]'(by omega)).2.1, (m[k]'(by omega)).2.2, rfl, hp, hm, fun W hW => ⟨?_, ?_, ?_⟩⟩
  · rw [← hr _ _ e1, Nat.mul_comm]; exact World.cell?_of_block (hW.block _ hp)
  · rw [← hr _ _ e2, Nat.mul_comm]; exact World.cell?_of_block (hW.block _ hp)
  · rw [← hr _ _ e3, Nat.mul_comm]; exact World.cell?_of_block (hW.block _ hp)
section
variable {H : Type} {enc : TypeId × Value → H} {P : Program} {w : World} {base : Nat} {spare : Nat → Bool} {held : Bool}
/-- Rows of two numbers and a Bool are runs. -/
theorem rows_runs {t1 t2 t3 : TypeId} (u1 : P.underlying t1 = some (.int .i64)) (u2 : P.underlying t2 = some (.int .i64)) (u3 : P.underlying t3 = some .bool) : ∀ (rows : List (List Value)), (∀ r ∈ rows, r.length = [t1, t2, t3].length ∧ LeafOk enc P w base spare held [t1, t2, t3] r) →
    ∃ m : List Ru, m.length = rows.length ∧ (∀ r ∈ m, (Lit.int .i64 r.1).wf = true ∧ (Lit.int .i64 r.2.1).wf = true) ∧ rows.flatten = cellsR m := by
  intro rows
  induction rows with
  | nil => intro _; exact ⟨[], rfl, by simp, rfl⟩
  | cons r rows ih =>
    intro h
    obtain ⟨m, h1, h2, h3⟩ := ih (fun r hr => h r (by simp [hr]))
    obtain ⟨hr, hl⟩ := h r (by simp)
    obtain ⟨x, ex, wx⟩ := leaf_int hl 0 t1 .i64 rfl u1
    obtain ⟨y, ey, wy⟩ := leaf_int hl 1 t2 .i64 rfl u2
    obtain ⟨b, eb⟩ := leaf_bool hl 2 t3 rfl u3
    obtain rfl : r = [.int .i64 x, .int .i64 y, .bool b] := by
      match r, hr with
      | [c, d, e], _ => simp at ex ey eb; rw [ex, ey, eb]
    refine ⟨(x, y, b) :: m, by simp [h1], fun q hq => ?_, by rw [List.flatten_cons, h3]; rfl⟩
    rcases List.mem_cons.1 hq with rfl | hq
    · exact ⟨wx, wy⟩
    · exact h2 q hq
theorem open_runs {t e t1 t2 t3 : TypeId} {f : Nat} (hu : P.underlying t = some (.slice e)) (hl : leaves P f e = some [t1, t2, t3]) (hc : P.cellsOf e = 3) (u1 : P.underlying t1 = some (.int .i64)) (u2 : P.underlying t2 = some (.int .i64)) (u3 : P.underlying t3 = some .bool) {a : Option Addr} {len cap : Nat} {d : DataW H} {ps : List MemPlace}
    (h : DataW.Trod enc P w base spare held t (.slice a len cap) d ps) :
    ∃ m : List Ru, m.length = len ∧ (∀ r ∈ m, (Lit.int .i64 r.1).wf = true ∧ (Lit.int .i64 r.2.1).wf = true) ∧ Rds Nn w 3 a len (cellsR m) ∧ len ≤ cap ∧ cap ≤ maxLen ∧ (a = none → len = 0 ∧ cap = 0) := by
  obtain ⟨rows, h1, h2, h3, h4, h5, h6⟩ := open_rows hu hl hc (by simp) h
  obtain ⟨m, g1, g2, g3⟩ := rows_runs u1 u2 u3 rows h2
  exact ⟨m, by rw [g1, h1], g2, by rw [← g3]; exact h3, h4, h5, h6⟩
end
end Go.Proofs.Ytccgbojcghbdcaa
