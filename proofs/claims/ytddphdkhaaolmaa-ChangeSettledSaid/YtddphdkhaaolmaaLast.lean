/- A region that draws its order and whose last operation waits for all others: the last one may be put off behind the region. -/
import Derived.Test.YtddphdkhaaolmaaMem
import Derived.StillTailTactics
import Derived.Deep.RegionHeld3
namespace Go.Proofs.Ytddphdkhaaolmaa
open Go.RowKit

section
variable {P : Program} {md : Region.Mode}

def dullOp (o : Oper) : Oper := { o with op := .move (.const (.int .i64 0)) }
/-- The region with a last operation that does nothing. -/
def dullLast : List Oper → List Oper
  | [] => []
  | [o] => [dullOp o]
  | o :: o2 :: l => o :: dullLast (o2 :: l)
theorem dullLast_len : ∀ l : List Oper, (dullLast l).length = l.length
  | [] => rfl
  | [_] => rfl
  | _ :: o2 :: l => by simp [dullLast, dullLast_len (o2 :: l)]
theorem dullLast_get : ∀ (l : List Oper) (j : Nat), (dullLast l)[j]? = (l[j]?).map (fun o => if j + 1 = l.length then dullOp o else o)
  | [], _ => rfl
  | [o], 0 => rfl
  | [o], j + 1 => by simp [dullLast]
  | o :: o2 :: l, 0 => by simp [dullLast]
  | o :: o2 :: l, j + 1 => by
    have := dullLast_get (o2 :: l) j
    simp only [dullLast, List.getElem?_cons_succ, this]
    congr 1
    funext o'
    simp

/-- The last one waits for all others, every one waits for earlier ones only, and the last one yields nothing. -/
def lastB (md : Region.Mode) (l : List Oper) : Bool :=
  Region.sinkB md l.toArray (l.length - 1) && Region.chainB md l.toArray (l.length - 1) &&
  (List.range l.length).all (fun j => match l[j]? with | some o => o.after.all (fun e => !Region.binds md e || decide (e.on < j)) | none => true) &&
  (match l[l.length - 1]? with | some o => o.dst.isNone && o.guard.isNone | none => false)

theorem ready_dull (l : List Oper) (listed : Array Bool) : Region.ready md (dullLast l).toArray listed = Region.ready md l.toArray listed := by
  unfold Region.ready
  rw [List.size_toArray, List.size_toArray, dullLast_len]
  apply List.filter_congr
  intro i _
  congr 1
  rw [List.getElem?_toArray, List.getElem?_toArray, dullLast_get]
  cases l[i]? with
  | none => rfl
  | some o => simp only [Option.map_some]; split <;> rfl

theorem yielded_dull (l : List Oper) (tmps : Array Value) : yielded (dullLast l).toArray tmps = yielded l.toArray tmps := by
  funext j
  unfold yielded
  rw [List.getElem?_toArray, List.getElem?_toArray, dullLast_get]
  cases l[j]? with
  | none => rfl
  | some o =>
    have : (if j + 1 = l.length then dullOp o else o).dst = o.dst := by split <;> rfl
    simp only [Option.map_some, Option.bind_some, this]

theorem ready_some {l : List Oper} {listed : Array Bool} (h : ∀ j o, l[j]? = some o → ∀ e ∈ o.after, Region.binds md e = true → e.on < j) (hs : listed.size = l.length) :
    ∀ (n j : Nat), j ≤ n → j < l.length → listed.getD j true = false → Region.ready md l.toArray listed ≠ [] := by
  intro n
  induction n with
  | zero =>
    intro j hj hl hu hr
    obtain rfl : j = 0 := by omega
    have : 0 ∈ Region.ready md l.toArray listed := mem_ready.2 ⟨hu, l[0], by simp [hl], fun e he hb => by have := h 0 l[0] (by simp [hl]) e he hb; omega⟩
    rw [hr] at this; cases this
  | succ n ih =>
    intro j hj hl hu hr
    by_cases hx : ∃ k, k < j ∧ listed.getD k true = false
    · obtain ⟨k, hk, hk2⟩ := hx
      exact ih k (by omega) (by omega) hk2 hr
    · have : j ∈ Region.ready md l.toArray listed := mem_ready.2 ⟨hu, l[j], by simp [hl], fun e he hb => by
        have h1 := h j l[j] (by simp [hl]) e he hb
        cases hc : listed.getD e.on false with
        | true => rfl
        | false => exact absurd ⟨e.on, h1, getD_in (by omega) hc⟩ hx⟩
      rw [hr] at this; cases this

/-- What is left to do behind the region: its last operation. -/
def LastQ (P : Program) (l : List Oper) (Q : Exit → Act → World → Prop) : Exit → Act → World → Prop
  | .normal, a, w => wpList P l.toArray Q (l.drop (l.length - 1)) a w
  | e, a, w => Q e a w

theorem LastQ_out {l : List Oper} {Q : Exit → Act → World → Prop} (h : LetsOut (LastQ P l Q)) : LetsOut Q := h
theorem wpOp_dull {l : List Oper} {Q : Exit → Act → World → Prop} {i : Nat} {K : Act → World → Prop} {a : Act} {w : World} (hi : i + 1 ≠ l.length) (h : wpOp P (dullLast l).toArray (LastQ P l Q) i K a w) : wpOp P l.toArray Q i K a w := by
  unfold wpOp at *
  rw [List.getElem?_toArray, dullLast_get] at h
  rw [List.getElem?_toArray]
  cases ho : l[i]? with
  | none => rw [ho] at h; exact h
  | some o =>
    rw [ho] at h
    simp only [Option.map_some, if_neg hi, yielded_dull] at h ⊢
    split
    · rename_i hw
      rw [if_pos hw] at h
      refine h.imp (fun h => ?_) (fun h => ⟨h.1, LastQ_out h.2⟩)
      unfold Oper.wp at *
      generalize (execOp a.eval o).run P w = r at *
      cases r with
      | ok n w' =>
        cases n <;> simp only [Oper.upon] at h ⊢ <;>
          first
            | exact h
            | exact Calls.mono h (fun e w'' he => by cases e <;> exact he)
      | halt x w' => cases x <;> simp only [Oper.upon] at h ⊢ <;> exact h
    · rename_i hw
      rw [if_neg hw] at h
      exact h

theorem wpAny_last {l : List Oper} {Q : Exit → Act → World → Prop} (hB : lastB md l = true) : ∀ (f : Nat) (listed : Array Bool) (a : Act) (w : World), HeadInv md l.toArray (l.length - 1) listed →
    wpAny P md (dullLast l).toArray (LastQ P l Q) f listed a w → wpAny P md l.toArray Q f listed a w := by
  simp only [lastB, Bool.and_eq_true] at hB
  obtain ⟨⟨⟨hsk, hch⟩, ht⟩, hd⟩ := hB
  rw [List.all_eq_true] at ht
  have hlast : ∃ o, l[l.length - 1]? = some o ∧ o.dst = none ∧ o.guard = none := by
    split at hd
    · rename_i o ho
      simp only [Bool.and_eq_true, Option.isNone_iff_eq_none] at hd
      exact ⟨o, ho, hd⟩
    · cases hd
  obtain ⟨ol, hol, hdst, hgd⟩ := hlast
  have hpos : 0 < l.length := by
    have := (List.getElem?_eq_some_iff.1 hol).1
    omega
  have htop : ∀ j o, l[j]? = some o → ∀ e ∈ o.after, Region.binds md e = true → e.on < j := by
    intro j o ho e he hb
    have := ht j (List.mem_range.2 (List.getElem?_eq_some_iff.1 ho).1)
    rw [ho] at this
    have := Array.all_eq_true'.1 this e he
    simpa [hb] using this
  intro f
  induction f with
  | zero =>
    intro listed a w inv h
    have hs : listed.size = l.length := by simpa using inv.size
    have hu := inv.tail (l.length - 1) (Nat.le_refl _) (by simp; omega)
    have := h.1
    rw [ready_dull] at this
    exact absurd this (ready_some htop hs _ _ (Nat.le_refl _) (by omega) hu)
  | succ f ih =>
    intro listed a w inv h
    have hs : listed.size = l.length := by simpa using inv.size
    have hu := inv.tail (l.length - 1) (Nat.le_refl _) (by simp; omega)
    refine ⟨fun h0 => absurd h0 (ready_some htop hs _ _ (Nat.le_refl _) (by omega) hu), fun i hi => ?_⟩
    have h1 := h.2 i (by rw [ready_dull]; exact hi)
    by_cases hil : i + 1 = l.length
    · obtain rfl : i = l.length - 1 := by omega
      have hnone : Region.ready md l.toArray (listed.setIfInBounds (l.length - 1) true) = [] := by
        apply List.eq_nil_iff_forall_not_mem.2
        intro j hj
        obtain ⟨hju, oj, hoj, _⟩ := mem_ready.1 hj
        have hjl : j < l.length := by simpa using (Array.getElem?_eq_some_iff.1 hoj).1
        by_cases hjn : j = l.length - 1
        · subst hjn
          simp [hs] at hju
        · rw [getD_set_ne true (by omega)] at hju
          exact tail_waits hsk hch (by simp; omega) inv _ j rfl (by omega) hju _ (Nat.le_refl _) hi
      have h2 : LastQ P l Q .normal a w := by
        unfold wpOp at h1
        rw [List.getElem?_toArray, dullLast_get, hol] at h1
        simp only [Option.map_some, if_pos hil] at h1
        have hwt : Region.wanted (dullOp ol) (yielded (dullLast l).toArray a.tmps) = true := by simp [Region.wanted, dullOp, hgd]
        rw [if_pos hwt] at h1
        rcases h1 with h1 | h1
        · have h4 : wpAny P md (dullLast l).toArray (LastQ P l Q) f (listed.setIfInBounds (l.length - 1) true) a w := by
            have : (dullOp ol).wp P a w (wpAny P md (dullLast l).toArray (LastQ P l Q) f (listed.setIfInBounds (l.length - 1) true)) (LastQ P l Q) := h1
            simpa [Oper.wp, execOp, dullOp, Oper.upon, Act.put, hdst] using this
          cases f with
          | zero => exact h4.2
          | succ f => exact h4.1 (by rw [ready_dull]; exact hnone)
        · have hno : noRoomEvent ∈ (#[] : Array Event) := h1.1.1
          simp at hno
      have h3 : l.drop (l.length - 1) = [ol] := by
        have hlt : l.length - 1 < l.length := by omega
        rw [List.drop_eq_getElem_cons hlt, List.drop_eq_nil_of_le (by omega)]
        have := List.getElem?_eq_getElem hlt
        rw [hol] at this
        exact congrArg (· :: []) (Option.some.inj this).symm
      have h5 : wpOp P l.toArray Q (l.length - 1) (fun a' w' => Q .normal a' w') a w := by
        unfold wpOp
        rw [List.getElem?_toArray, hol]
        have h6 : wpList P l.toArray Q (l.drop (l.length - 1)) a w := h2
        rw [h3] at h6
        exact h6
      refine wpOp_mono (fun a' w' hq => ?_) h5
      cases f with
      | zero => exact ⟨hnone, hq⟩
      | succ f => exact ⟨fun _ => hq, by rw [hnone]; intro i hi; cases hi⟩
    · have hil2 : i < l.length := by simpa using (Array.getElem?_eq_some_iff.1 (mem_ready.1 hi).2.choose_spec.1).1
      exact wpOp_mono (fun a' w' h2 => ih _ _ _ (inv.set hi (by omega)) h2) (wpOp_dull hil h1)

/-- A take, with the slot that it fills. -/
theorem take_at {ops : Array Oper} {Q : Exit → Act → World → Prop} {S : World → Prop} {i d : Nat} {oi : Oper} {v : Value} {fuel : Nat} {listed : Array Bool} {tmps : Array Value} {df : List Deferred} {w : World} (hi : ops[i]? = some oi) (hd : oi.dst = some d)
    (hs : Region.noSelect ops = true) (hf : Region.free md ops listed i = true) (hr : (Region.ready md ops listed).contains i = true)
    (hQ : ∀ c a w, Q (.panic c) (a.put oi.dst v) w → Q (.panic c) a w) (hy : YieldsIf P ops S oi v ⟨tmps, df⟩) (hS : S w)
    (h : wpAnyH P md ops Q S fuel (listed.setIfInBounds i true) ⟨tmps.setIfInBounds d v, df⟩ w) : wpAnyH P md ops Q S (fuel + 1) listed ⟨tmps, df⟩ w :=
  wpAnyH_take hi hs hf hr hQ hy hS (by simpa [Act.put, hd] using h)
/-- The take of the last one, which does nothing. -/
theorem take_none {ops : Array Oper} {Q : Exit → Act → World → Prop} {S : World → Prop} {i : Nat} {oi : Oper} {v : Value} {fuel : Nat} {listed : Array Bool} {a : Act} {w : World} (hi : ops[i]? = some oi) (hd : oi.dst = none)
    (hs : Region.noSelect ops = true) (hf : Region.free md ops listed i = true) (hr : (Region.ready md ops listed).contains i = true)
    (hQ : ∀ c a w, Q (.panic c) (a.put oi.dst v) w → Q (.panic c) a w) (hy : YieldsIf P ops S oi v a) (hS : S w)
    (h : wpAnyH P md ops Q S fuel (listed.setIfInBounds i true) a w) : wpAnyH P md ops Q S (fuel + 1) listed a w :=
  wpAnyH_take hi hs hf hr hQ hy hS (by simpa [Act.put, hd] using h)
/-- **The beginning**: the last operation is put off; S is to hold behind each of the others. -/
theorem wp_region_last {id : Nat} {l : List Oper} {Q : Exit → Act → World → Prop} {a : Act} {w : World} (S : World → Prop) (hm : P.follows .mixedOrders = true) (hB : lastB .any l = true)
    (h : wpAnyH P .any (dullLast l).toArray (LastQ P l Q) S l.length (Array.replicate l.length false) a w.drew) : (Code.region id l.toArray true).wp P Q a w := by
  refine wp_region_any hm ?_
  rw [List.size_toArray]
  refine wpAny_last hB _ _ _ _ ⟨by simp, fun j oj _ hl => (by rw [getD_replicate_false] at hl; cases hl), fun t _ ht => getD_in (by simpa using ht) (getD_replicate_false _ _)⟩ (wpAny_of_held _ _ _ _ h)
end
end Go.Proofs.Ytddphdkhaaolmaa
