/- A value that is read at a type of structs and arrays: cell by cell, each read at its own type. -/
import Derived.ProofKit
import Derived.OpenShut
import Derived.Deep.Slices
namespace Go.Proofs.Ytddphdkhaaolmaa
open Go.ChangeShapes Go.WideShapes Go.RowKit Go.Deep

/-- The one-cell types of which a type consists, in the order of its cells. -/
def leaves (P : Program) : Nat → TypeId → Option (List TypeId)
  | 0, _ => none
  | f + 1, t =>
    match P.underlying t with
    | some (.struct fs) => fs.toList.foldlM (fun acc fd => (leaves P f fd.type).bind fun l => if fd.offset = acc.length ∧ P.cellsOf fd.type = l.length then some (acc ++ l) else none) []
    | some (.array n e) => (leaves P f e).bind fun l => if P.cellsOf e = l.length then some ((List.replicate n l).flatten) else none
    | some _ => some [t]
    | none => none

section
variable {H : Type} {enc : TypeId × Value → H} {P : Program} {w : World} {base : Nat} {spare : Nat → Bool} {held : Bool}

/-- Every cell reads at its leaf's type. -/
def LeafOk (enc : TypeId × Value → H) (P : Program) (w : World) (base : Nat) (spare : Nat → Bool) (held : Bool) (ls : List TypeId) (cs : List Value) : Prop :=
  ∀ (i : Nat) (t' : TypeId), ls[i]? = some t' → ∃ (c : Value) (n : Nat) (y : DataW H × List MemPlace), cs[i]? = some c ∧ DataW.trod enc P w base spare held n t' [c] = some y

theorem leafOk_append {l1 l2 : List TypeId} {cs : List Value} (h1 : LeafOk enc P w base spare held l1 cs) (h2 : LeafOk enc P w base spare held l2 (cs.drop l1.length)) : LeafOk enc P w base spare held (l1 ++ l2) cs := by
  intro i t' hi
  rcases Nat.lt_or_ge i l1.length with h | h
  · rw [List.getElem?_append_left h] at hi
    exact h1 i t' hi
  · rw [List.getElem?_append_right h] at hi
    obtain ⟨c, n, y, hc, hy⟩ := h2 _ t' hi
    rw [List.getElem?_drop] at hc
    exact ⟨c, n, y, by rw [← hc]; congr 1; omega, hy⟩

theorem leafOk_take {l : List TypeId} {cs : List Value} {k : Nat} (h : LeafOk enc P w base spare held l (cs.take k)) : LeafOk enc P w base spare held l cs := by
  intro i t' hi
  obtain ⟨c, n, y, hc, hy⟩ := h i t' hi
  refine ⟨c, n, y, ?_, hy⟩
  rw [List.getElem?_take] at hc
  split at hc
  · exact hc
  · cases hc

theorem leaves_ok : ∀ (f : Nat) (t : TypeId) (ls : List TypeId), leaves P f t = some ls → ∀ (fuel : Nat) (cs : List Value) (x : DataW H × List MemPlace),
    DataW.trod enc P w base spare held fuel t cs = some x → cs.length = ls.length → LeafOk enc P w base spare held ls cs := by
  intro f
  induction f with
  | zero => intro t ls h; simp [leaves] at h
  | succ f ih =>
    intro t ls h fuel cs x hx hlen
    unfold leaves at h
    split at h
    · rename_i fs ht
      obtain ⟨xs, n, _, _, hl, hxl, hfs⟩ := DataW.trod_struct ht hx
      have hall : ∀ fd ∈ fs.toList, ∃ y, DataW.trod enc P w base spare held n fd.type ((cs.drop fd.offset).take (P.cellsOf fd.type)) = some y ∧ fd.offset ≤ fd.offset := by
        intro fd hfd
        obtain ⟨i, hi, he⟩ := List.getElem_of_mem hfd
        have h1 : fs[i]? = some fd := by rw [← he]; simp at hi ⊢
        have h2 := hfs i fd h1
        have h3 : i < xs.length := by rw [hxl]; simpa using hi
        rw [List.getElem?_eq_getElem h3] at h2
        exact ⟨_, h2, Nat.le_refl _⟩
      suffices hs : ∀ (l : List Field) (acc : List TypeId), (∀ fd ∈ l, ∃ y, DataW.trod enc P w base spare held n fd.type ((cs.drop fd.offset).take (P.cellsOf fd.type)) = some y ∧ fd.offset ≤ fd.offset) → LeafOk enc P w base spare held acc cs →
          ∀ r, l.foldlM (fun acc fd => (leaves P f fd.type).bind fun l => if fd.offset = acc.length ∧ P.cellsOf fd.type = l.length then some (acc ++ l) else none) acc = some r → r.length ≤ cs.length → LeafOk enc P w base spare held r cs by
        exact hs fs.toList [] hall (by intro i t' hi; simp at hi) ls h (by omega)
      intro l
      induction l with
      | nil => intro acc _ hacc r hr _; simp at hr; subst hr; exact hacc
      | cons fd l ihl =>
        intro acc hal hacc r hr hrl
        simp only [List.foldlM_cons] at hr
        cases hlv : leaves P f fd.type with
        | none => simp [hlv] at hr
        | some lv =>
          simp only [hlv, Option.bind_some] at hr
          by_cases hcond : fd.offset = acc.length ∧ P.cellsOf fd.type = lv.length
          · rw [if_pos hcond] at hr
            simp only [Option.bind_eq_bind, Option.bind_some] at hr
            have hmono : ∀ (l : List Field) (acc r : List TypeId), l.foldlM (fun acc fd => (leaves P f fd.type).bind fun l => if fd.offset = acc.length ∧ P.cellsOf fd.type = l.length then some (acc ++ l) else none) acc = some r → acc.length ≤ r.length := by
              intro l
              induction l with
              | nil => intro acc r hr; simp at hr; subst hr; exact Nat.le_refl _
              | cons fd l ihm =>
                intro acc r hr
                simp only [List.foldlM_cons] at hr
                cases hlv : leaves P f fd.type with
                | none => simp [hlv] at hr
                | some lv =>
                  simp only [hlv, Option.bind_some] at hr
                  by_cases hc : fd.offset = acc.length ∧ P.cellsOf fd.type = lv.length
                  · rw [if_pos hc] at hr
                    simp only [Option.bind_eq_bind, Option.bind_some] at hr
                    have := ihm _ _ hr
                    simp at this; omega
                  · rw [if_neg hc] at hr; simp at hr
            have hle := hmono _ _ _ hr
            obtain ⟨y, hy, _⟩ := hal fd (by simp)
            have hk : LeafOk enc P w base spare held lv (cs.drop acc.length) := by
              have := ih fd.type lv hlv n _ y hy (by rw [List.length_take, List.length_drop, hcond.1, hcond.2]; simp at hle; omega)
              rw [hcond.1] at this
              exact leafOk_take this
            exact ihl (acc ++ lv) (fun fd hfd => hal fd (by simp [hfd])) (leafOk_append hacc hk) r hr hrl
          · rw [if_neg hcond] at hr; simp at hr
    · rename_i m e ht
      obtain ⟨xs, n, _, _, hl, hxl, hfs⟩ := DataW.trod_array ht hx
      cases hlv : leaves P f e with
      | none => simp [hlv] at h
      | some lv =>
        simp only [hlv, Option.bind_some] at h
        by_cases hcond : P.cellsOf e = lv.length
        · rw [if_pos hcond] at h
          simp only [Option.some.injEq] at h
          subst h
          have hgen : ∀ (k : Nat) (ds : List Value), ds.length = k * lv.length → (∀ i, i < k → LeafOk enc P w base spare held lv ((ds.drop (i * lv.length)).take lv.length)) → LeafOk enc P w base spare held ((List.replicate k lv).flatten) ds := by
            intro k
            induction k with
            | zero => intro ds _ _ i t' hi; simp at hi
            | succ k ihk =>
              intro ds hd hal
              rw [List.replicate_succ, List.flatten_cons]
              refine leafOk_append ?_ ?_
              · have := hal 0 (by omega)
                simp at this
                exact leafOk_take this
              · refine ihk _ (by rw [List.length_drop, hd, Nat.succ_mul]; omega) ?_
                intro i hi
                have := hal (i + 1) (by omega)
                rw [List.drop_drop]
                rwa [Nat.succ_mul, Nat.add_comm] at this
          have hlen' : cs.length = m * lv.length := by rw [hlen]; simp
          refine hgen m cs hlen' ?_
          intro i hi
          have h2 := hfs i hi
          rw [hcond] at h2
          rw [List.getElem?_eq_getElem (by omega)] at h2
          refine ih e lv hlv n _ _ h2 ?_
          rw [List.length_take, List.length_drop, hlen']
          have : (i + 1) * lv.length ≤ m * lv.length := Nat.mul_le_mul_right _ (by omega)
          rw [Nat.succ_mul] at this
          omega
        · rw [if_neg hcond] at h; simp at h
    · simp only [Option.some.injEq] at h
      subst h
      simp at hlen
      match cs, hlen with
      | [c], _ =>
        intro i t' hi
        match i, hi with
        | 0, hi => simp at hi; subst hi; exact ⟨c, fuel, x, rfl, hx⟩
        | i + 1, hi => simp at hi
    · simp at h

/-- An integer leaf. -/
theorem leaf_int {ls : List TypeId} {cs : List Value} (h : LeafOk enc P w base spare held ls cs) (i : Nat) (t : TypeId) (k : IntKind) (hi : ls[i]? = some t) (ht : P.underlying t = some (.int k)) : ∃ n, cs[i]? = some (.int k n) ∧ (Lit.int k n).wf = true := by
  obtain ⟨c, m, y, hc, hy⟩ := h i t hi
  obtain ⟨n, he, _, hw⟩ := DataW.trod_int ht hy
  simp at he
  exact ⟨n, by rw [hc, he], hw⟩
theorem leaf_bool {ls : List TypeId} {cs : List Value} (h : LeafOk enc P w base spare held ls cs) (i : Nat) (t : TypeId) (hi : ls[i]? = some t) (ht : P.underlying t = some .bool) : ∃ b, cs[i]? = some (.bool b) := by
  obtain ⟨c, m, y, hc, hy⟩ := h i t hi
  obtain ⟨n, he, _⟩ := DataW.trod_bool ht hy
  simp at he
  exact ⟨n, by rw [hc, he]⟩
theorem leaf_string {ls : List TypeId} {cs : List Value} (h : LeafOk enc P w base spare held ls cs) (i : Nat) (t : TypeId) (hi : ls[i]? = some t) (ht : P.underlying t = some .string) : ∃ s, cs[i]? = some (.string s) ∧ s.size ≤ maxLen := by
  obtain ⟨c, m, y, hc, hy⟩ := h i t hi
  obtain ⟨n, he, _, hw⟩ := DataW.trod_string ht hy
  simp at he
  exact ⟨n, by rw [hc, he], hw⟩

theorem leaf_slice {ls : List TypeId} {cs : List Value} (h : LeafOk enc P w base spare held ls cs) (i : Nat) (t e : TypeId) (hi : ls[i]? = some t) (ht : P.underlying t = some (.slice e)) : ∃ a len c, cs[i]? = some (.slice a len c) ∧ ∃ d ps, DataW.Trod enc P w base spare held t (.slice a len c) d ps := by
  obtain ⟨v, m, y, hc, hy⟩ := h i t hi
  rcases open_slice ht hy with ⟨hcs, _⟩ | ⟨x, l, c, _, _, _, _, hcs, _⟩
  · simp at hcs
    subst hcs
    exact ⟨_, _, _, hc, y.1, y.2, m, hy⟩
  · simp at hcs
    subst hcs
    exact ⟨_, _, _, hc, y.1, y.2, m, hy⟩
theorem agg_eq {cs : Array Value} {n : Nat} {l : List Value} (hs : cs.size = n) (h : ∀ i, i < l.length → cs.toList[i]? = l[i]?) (hl : l.length = n := by rfl) : cs = l.toArray := by
  apply Array.ext'
  apply List.ext_getElem?
  intro i
  rcases Nat.lt_or_ge i l.length with hi | hi
  · exact h i hi
  · rw [List.getElem?_eq_none (by simp; omega), List.getElem?_eq_none (by simpa using hi)]

/-- A struct or an array by value: its cells. -/
theorem open_agg {r : Reach} {b0 : Nat} {t : TypeId} {ls : List TypeId} {f : Nat} {v : Value} {d : DataW H} {ps : List MemPlace} (hs : (∃ fs, P.underlying t = some (.struct fs)) ∨ (∃ n e, P.underlying t = some (.array n e))) (hl : leaves P f t = some ls) (hc : P.cellsOf t = ls.length)
    (hval : Value.okWide P w r b0 t v) (hd : DataW.Trod enc P w base spare held t v d ps) : ∃ cs : Array Value, v = .agg cs ∧ cs.size = ls.length ∧ LeafOk enc P w base spare held ls cs.toList := by
  have : ∃ cs, v = .agg cs ∧ cs.size = P.cellsOf t := by
    rcases hs with ⟨fs, h⟩ | ⟨n, e, h⟩ <;>
    · simp only [Value.okWide, h] at hval
      obtain ⟨cs, h1, h2, _⟩ := hval
      exact ⟨cs, h1, h2⟩
  obtain ⟨cs, rfl, hsz⟩ := this
  obtain ⟨fuel, hf⟩ := hd
  exact ⟨cs, rfl, by rw [hsz, hc], leaves_ok f t ls hl fuel _ _ hf (by simp [hsz, hc])⟩
end
end Go.Proofs.Ytddphdkhaaolmaa
