/- A slice that comes in: its rows of cells. -/
import Derived.Test.YtddphdkhaaolmaaFlat
import Derived.Test.YtddphdkhaaolmaaMem
import Derived.SizedLaws
import Derived.ChangeSlices
namespace Go.Proofs.Ytddphdkhaaolmaa
open Go.ChangeShapes Go.WideShapes Go.RowKit Go.Deep

theorem flatten_get {α : Type} (k : Nat) (hk : 0 < k) : ∀ (rows : List (List α)), (∀ r ∈ rows, r.length = k) → ∀ j, rows.flatten[j]? = (rows[j / k]?).bind (fun r => r[j % k]?) := by
  intro rows
  induction rows with
  | nil => intro _ j; simp
  | cons r rows ih =>
    intro h j
    have hr := h r (by simp)
    rw [List.flatten_cons]
    rcases Nat.lt_or_ge j k with hj | hj
    · rw [List.getElem?_append_left (by omega), Nat.div_eq_of_lt hj, Nat.mod_eq_of_lt hj]
      rfl
    · rw [List.getElem?_append_right (by omega), ih (fun r hr => h r (by simp [hr])), hr]
      have e1 : j / k = (j - k) / k + 1 := by
        rw [Nat.div_eq_sub_div hk hj]
      have e2 : j % k = (j - k) % k := Nat.mod_eq_sub_mod hj
      rw [e1, e2, List.getElem?_cons_succ]
theorem flatten_len {α : Type} (k : Nat) : ∀ (rows : List (List α)), (∀ r ∈ rows, r.length = k) → rows.flatten.length = rows.length * k := by
  intro rows
  induction rows with
  | nil => intro _; simp
  | cons r rows ih =>
    intro h
    rw [List.flatten_cons, List.length_append, h r (by simp), ih (fun r hr => h r (by simp [hr])), List.length_cons, Nat.succ_mul, Nat.add_comm]

section
variable {H : Type} {enc : TypeId × Value → H} {P : Program} {w : World} {base : Nat} {spare : Nat → Bool} {held : Bool}
theorem open_rows {t e : TypeId} {ls : List TypeId} {f : Nat} (hu : P.underlying t = some (.slice e)) (hl : leaves P f e = some ls) (hc : P.cellsOf e = ls.length) (h0 : 0 < ls.length) {a : Option Addr} {len cap : Nat} {d : DataW H} {ps : List MemPlace}
    (h : DataW.Trod enc P w base spare held t (.slice a len cap) d ps) :
    ∃ rows : List (List Value), rows.length = len ∧ (∀ r ∈ rows, r.length = ls.length ∧ LeafOk enc P w base spare held ls r) ∧ Rds Nn w ls.length a len rows.flatten ∧ len ≤ cap ∧ cap ≤ maxLen ∧ (a = none → len = 0 ∧ cap = 0) := by
  obtain ⟨fuel, hf⟩ := h
  rcases open_slice hu hf with ⟨hcs, _⟩ | ⟨x, l, c, m, n, D, Pl, hcs, _, hlc, hcm, hm, _, hel⟩
  · simp [Value.cells] at hcs
    obtain ⟨rfl, rfl, rfl⟩ := hcs
    exact ⟨[], rfl, by simp, Rds.nil _ _ _ _, Nat.le_refl _, by unfold maxLen; omega, fun _ => ⟨rfl, rfl⟩⟩
  · simp [Value.cells] at hcs
    obtain ⟨rfl, rfl, rfl⟩ := hcs
    have hlm : len ≤ m := by rw [hm]; split <;> omega
    obtain ⟨F, hF⟩ := choose_lt (fun i (hi : i < len) => hel i (by omega))
    have hrl : ∀ i, i < len → (F i).length = ls.length := fun i hi => by rw [← hc]; exact (World.cells?_some (hF i hi).1).2.1
    have hall : ∀ r ∈ (List.range len).map F, r.length = ls.length := by
      intro r hr
      simp at hr
      obtain ⟨i, hi, rfl⟩ := hr
      exact hrl i hi
    have hcell : ∀ j u, ((List.range len).map F).flatten[j]? = some u → w.cell? (x.add j) = some u := by
      intro j u hu
      rw [flatten_get ls.length h0 _ hall] at hu
      obtain ⟨r, hr, hru⟩ := Option.bind_eq_some_iff.1 hu
      have hjl : j / ls.length < len := by simpa using (List.getElem?_eq_some_iff.1 hr).1
      obtain rfl : F (j / ls.length) = r := by simpa [hjl] using hr
      have h1 := (World.cells?_some (hF _ hjl).1).2.2 (j % ls.length) (by rw [hc]; exact Nat.mod_lt _ h0)
      rw [hc, add_add', hru] at h1
      rw [← h1]
      congr 2
      rw [Nat.mul_comm]
      exact (Nat.div_add_mod j ls.length).symm
    refine ⟨(List.range len).map F, by simp, fun r hr => ⟨hall r hr, ?_⟩, ⟨by rw [flatten_len ls.length _ hall]; simp, fun hp => ⟨x, rfl, ?_, id, hcell⟩⟩, hlc, hcm, fun h => by cases h⟩
    · simp at hr
      obtain ⟨i, hi, rfl⟩ := hr
      exact leaves_ok f e ls hl _ _ _ (hF i hi).2 (hrl i hi)
    · have hj : 0 < ((List.range len).map F).flatten.length := by rw [flatten_len ls.length _ hall]; simp; exact Nat.mul_pos hp h0
      have := World.block_lt_of_cell? w _ (hcell 0 _ (List.getElem?_eq_getElem hj))
      rwa [block_add] at this

/-- Its length, within the reach. -/
theorem open_sized {ts : List TypeId} {ds : List (DataW H)} {j : Nat} {t e : TypeId} {a : Option Addr} {len cap : Nat} {d : DataW H} {ps : List MemPlace} (hsz : (DataW.weightsEach P ts ds).all (· ≤ reachBytes) = true) (ht : ts[j]? = some t) (hd : ds[j]? = some d) (hu : P.underlying t = some (.slice e)) {B : Nat} (hB : P.bytesOf e = B)
    (h : DataW.Trod enc P w base spare held t (.slice a len cap) d ps) : len * B ≤ 140737488351232 := by
  obtain ⟨fuel, hf⟩ := h
  rcases open_slice hu hf with ⟨hcs, _⟩ | ⟨x, l, c, m, n, D, Pl, hcs, _, _, _, _, hx, _⟩
  · simp [Value.cells] at hcs
    obtain ⟨rfl, rfl, rfl⟩ := hcs
    simp
  · simp [Value.cells] at hcs
    obtain ⟨rfl, rfl, rfl⟩ := hcs
    obtain ⟨hx, _⟩ := Prod.mk.inj hx
    subst hx
    have z := sized_slice hsz ht hd hu
    rw [hB] at z
    refine Nat.le_trans (Nat.mul_le_mul_right _ ?_) z
    simp

/-- Rows whose cells are all whole numbers. -/
theorem rows_ints {ls : List TypeId} (hls : ∀ t' ∈ ls, P.underlying t' = some (.int .i64)) : ∀ (rows : List (List Value)), (∀ r ∈ rows, r.length = ls.length ∧ LeafOk enc P w base spare held ls r) →
    ∃ rs : List (List Int), rs.length = rows.length ∧ (∀ r ∈ rs, r.length = ls.length ∧ ∀ n ∈ r, (Lit.int .i64 n).wf = true) ∧ rows.flatten = ints rs.flatten := by
  intro rows
  induction rows with
  | nil => intro _; exact ⟨[], rfl, by simp, rfl⟩
  | cons r rows ih =>
    intro h
    obtain ⟨rs, h1, h2, h3⟩ := ih (fun r hr => h r (by simp [hr]))
    obtain ⟨hr, hl⟩ := h r (by simp)
    have hc : ∀ i, i < ls.length → ∃ n : Int, r[i]? = some (.int .i64 n) ∧ (Lit.int .i64 n).wf = true := by
      intro i hi
      exact leaf_int hl i ls[i] .i64 (List.getElem?_eq_getElem hi) (hls _ (by simp))
    obtain ⟨F, hF⟩ := choose_lt hc
    have hrr : r = ints ((List.range ls.length).map F) := by
      apply List.ext_getElem?
      intro i
      rcases Nat.lt_or_ge i ls.length with hi | hi
      · rw [(hF i hi).1, ints_get]; simp [hi]
      · rw [List.getElem?_eq_none (by omega), ints_get]; simp [hi]
    refine ⟨(List.range ls.length).map F :: rs, by simp [h1], ?_, by rw [List.flatten_cons, List.flatten_cons, ints_append, h3, ← hrr]⟩
    intro x hx
    simp at hx
    rcases hx with rfl | hx
    · refine ⟨by simp, fun n hn => ?_⟩
      simp at hn
      obtain ⟨i, hi, rfl⟩ := hn
      exact (hF i hi).2
    · exact h2 x hx

/-- A slice of numbers, or of structs or arrays of numbers. -/
theorem open_nums {t e : TypeId} {ls : List TypeId} {f : Nat} (hu : P.underlying t = some (.slice e)) (hl : leaves P f e = some ls) (hc : P.cellsOf e = ls.length) (h0 : 0 < ls.length) (hls : ∀ t' ∈ ls, P.underlying t' = some (.int .i64)) {a : Option Addr} {len cap : Nat} {d : DataW H} {ps : List MemPlace}
    (h : DataW.Trod enc P w base spare held t (.slice a len cap) d ps) :
    ∃ rs : List (List Int), rs.length = len ∧ (∀ r ∈ rs, r.length = ls.length ∧ ∀ n ∈ r, (Lit.int .i64 n).wf = true) ∧ Rds Nn w ls.length a len (ints rs.flatten) ∧ len ≤ cap ∧ cap ≤ maxLen ∧ (a = none → len = 0 ∧ cap = 0) := by
  obtain ⟨rows, h1, h2, h3, h4, h5, h6⟩ := open_rows hu hl hc h0 h
  obtain ⟨rs, g1, g2, g3⟩ := rows_ints hls rows h2
  exact ⟨rs, by rw [g1, h1], g2, by rw [← g3]; exact h3, h4, h5, h6⟩
theorem flat_one : ∀ (rs : List (List Int)), (∀ r ∈ rs, r.length = 1) → ∃ l : List Int, rs.flatten = l ∧ l.length = rs.length := by
  intro rs h
  exact ⟨_, rfl, by rw [flatten_len 1 rs h, Nat.mul_one]⟩
/-- A slice of numbers. -/
theorem open_list {t e : TypeId} (hu : P.underlying t = some (.slice e)) (he : P.underlying e = some (.int .i64)) (hc : P.cellsOf e = 1) {a : Option Addr} {len cap : Nat} {d : DataW H} {ps : List MemPlace}
    (h : DataW.Trod enc P w base spare held t (.slice a len cap) d ps) :
    ∃ l : List Int, l.length = len ∧ (∀ n ∈ l, (Lit.int .i64 n).wf = true) ∧ Rds Nn w 1 a len (ints l) ∧ len ≤ cap ∧ cap ≤ maxLen ∧ (a = none → len = 0 ∧ cap = 0) := by
  obtain ⟨rs, h1, h2, h3, h4, h5, h6⟩ := open_nums (ls := [e]) (f := 1) hu (by simp [leaves, he]) hc (by simp) (by simpa using he) h
  refine ⟨rs.flatten, by rw [flatten_len 1 rs (fun r hr => (h2 r hr).1), Nat.mul_one, h1], fun n hn => ?_, h3, h4, h5, h6⟩
  obtain ⟨r, hr, hnr⟩ := List.mem_flatten.1 hn
  exact (h2 r hr).2 n hnr
end
end Go.Proofs.Ytddphdkhaaolmaa
