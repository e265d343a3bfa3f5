/- A region whose order is open, walked in ONE order: operations that look at no memory may be taken first, every other one only where it stands alone. -/
import Derived.RegionTactic
import Derived.Laws.Panics
import Derived.WalkKit
namespace Go.Proofs.Ytddphdkhaaolmaa
open Go.RowKit

/-- Where it comes to a value, it looks at no memory and changes none. -/
def Wl (P : Program) {α : Type} (s : Sem α) : Prop := ∀ w a w1, s.run P w = .ok a w1 → w1 = w ∧ ∀ w', s.run P w' = .ok a w'
section
variable {P : Program} {α β : Type}
theorem Wl.pure (a : α) : Wl P (Pure.pure a : Sem α) := fun w b w1 h => by
  simp only [Sem.run_pure, Result.ok.injEq] at h
  obtain ⟨rfl, rfl⟩ := h
  exact ⟨rfl, fun _ => rfl⟩
theorem Wl.halt (h : Halt) : Wl P (Sem.halt h : Sem α) := fun w b w1 e => by simp [Sem.run] at e
theorem Wl.bind {s : Sem α} {f : α → Sem β} (hs : Wl P s) (hf : ∀ a, Wl P (f a)) : Wl P (s >>= f) := by
  intro w b w1 h
  rw [Sem.run_bind] at h
  cases hr : s.run P w with
  | halt e w' => rw [hr] at h; simp at h
  | ok a w' =>
    obtain ⟨rfl, h2⟩ := hs w a w' hr
    rw [hr, Result.andThen_ok] at h
    obtain ⟨rfl, h3⟩ := hf a _ b w1 h
    exact ⟨rfl, fun w' => by rw [Sem.run_bind, h2, Result.andThen_ok, h3]⟩
theorem Wl.never {s : Sem α} (h : ∀ w, ∃ e w', s.run P w = .halt e w') : Wl P s := fun w b w1 hr => by
  obtain ⟨e, w', h⟩ := h w
  rw [h] at hr; cases hr
theorem Wl.bounds (k : IntKind) (x y : Int) (c : BoundsCode) : Wl P (boundsPanic k x y c : Sem α) := Wl.never fun w => by
  obtain ⟨s, w', h⟩ := run_boundsPanic (α := α) (P := P) (w := w) k x y c
  exact ⟨_, _, h⟩
theorem Wl.program : Wl P (Go.program) := fun w b w1 h => by
  simp only [Go.program, Sem.run, Result.ok.injEq] at h
  obtain ⟨rfl, rfl⟩ := h
  exact ⟨rfl, fun _ => rfl⟩
theorem Wl.underlying (t : TypeId) : Wl P (Go.underlying t) := by
  refine Wl.bind Wl.program fun p => ?_
  split
  · exact Wl.pure _
  · exact Wl.halt _
theorem Wl.typeInfo (t : TypeId) : Wl P (Go.typeInfo t) := by
  refine Wl.bind Wl.program fun p => ?_
  split
  · exact Wl.pure _
  · exact Wl.halt _
theorem Wl.sizeOf (t : TypeId) : Wl P (Go.sizeOf t) := Wl.bind (Wl.typeInfo t) fun _ => Wl.pure _
theorem Wl.asIntOf (v : Value) : Wl P (Go.asIntOf v) := by
  unfold Go.asIntOf
  split
  · exact Wl.pure _
  · exact Wl.halt _
  · exact Wl.halt _
theorem Wl.asBool (v : Value) : Wl P (Go.asBool v) := by
  unfold Go.asBool
  split
  · exact Wl.pure _
  · exact Wl.halt _
theorem Wl.extract (v : Value) (i : Nat) : Wl P (Instr.extract v i) := by
  unfold Instr.extract
  split
  · split
    · exact Wl.pure _
    · exact Wl.halt _
  · exact Wl.halt _
theorem Wl.sliceBound (v : Value) (n : Nat) (c : BoundsCode) : Wl P (Instr.sliceBound v n c) := by
  refine Wl.bind (Wl.asIntOf v) fun x => ?_
  obtain ⟨k, i⟩ := x
  show Wl P (if 0 ≤ i ∧ i ≤ (n : Int) then Pure.pure i.toNat else boundsPanic k i n c)
  split
  · exact Wl.pure _
  · exact Wl.bounds _ _ _ _
theorem Wl.sliceBounds (b : Bool) (l c : Nat) (lo hi mx : Option Value) : Wl P (Instr.sliceBounds b l c lo hi mx) := by
  unfold Instr.sliceBounds
  cases lo <;> cases hi <;> cases mx <;> simp only <;>
    repeat (first | exact Wl.halt _ | exact Wl.pure _ | exact Wl.bind (Wl.halt _) (fun _ => Wl.pure _) | refine Wl.bind (Wl.sliceBound _ _ _) (fun _ => ?_) | refine Wl.bind (Wl.pure _) (fun _ => ?_) | refine Wl.bind (Wl.halt _) (fun _ => ?_))
/-- A cut of a slice. -/
def cutCore (e : TypeId) (lo hi mx : Option Value) : Value → Sem Value
  | .slice a len cap => do
    let (l, h, m) ← Instr.sliceBounds true len cap lo hi mx
    let size ← Go.sizeOf e
    Pure.pure (.slice (if m = l then a else a.map (·.add (l * size))) (h - l) (m - l))
  | _ => stuck "Slice: string, slice or pointer to array expected"
theorem Wl.cutCore (e : TypeId) (lo hi mx : Option Value) (x : Value) : Wl P (cutCore e lo hi mx x) := by
  cases x
  case slice a len cap => exact Wl.bind (Wl.sliceBounds _ _ _ _ _ _) fun _ => Wl.bind (Wl.sizeOf _) fun _ => Wl.pure _
  all_goals exact Wl.halt _
theorem Wl.congr {s t : Sem α} (h : ∀ w, s.run P w = t.run P w) (ht : Wl P t) : Wl P s := fun w a w1 hr => by
  rw [h] at hr
  obtain ⟨g1, g2⟩ := ht w a w1 hr
  exact ⟨g1, fun w' => by rw [h]; exact g2 w'⟩
theorem Wl.slice {t e : TypeId} (ht : P.underlying t = some (.slice e)) (x : Value) (lo hi mx : Option Value) : Wl P (Instr.sliceAt t x lo hi mx) := by
  have h1 : ∀ w, (Go.underlying t).run P w = .ok (.slice e) w := fun w => run_underlying ht w
  refine Wl.congr (t := Instr.slice t x lo hi mx) (fun w => ?_) (Wl.congr (t := Go.Proofs.Ytddphdkhaaolmaa.cutCore e lo hi mx x) (fun w => ?_) (Wl.cutCore e lo hi mx x))
  · unfold Instr.sliceAt
    rw [Sem.run_bind, h1, Result.andThen_ok]
  · unfold Instr.slice
    rw [Sem.run_bind, h1, Result.andThen_ok]
    cases x <;> rfl
/-- The length of a slice. -/
def lenCore : Value → Sem Value
  | .slice _ n _ => Pure.pure (goInt n)
  | _ => stuck "len: string, array, pointer to array, slice, map or channel expected"
theorem Wl.len {t e : TypeId} (ht : P.underlying t = some (.slice e)) (ats : Array TypeId) (h0 : ats[0]? = some t) (ty : TypeId) (args : Array Value) : Wl P (Builtin.len_ ats ty args) := by
  have h1 : ∀ w, (Go.underlying t).run P w = .ok (.slice e) w := fun w => run_underlying ht w
  cases hx : args[0]? with
  | none => exact Wl.never fun w => ⟨_, w, by simp only [Builtin.len_, h0, hx, stuck, Sem.run]; rfl⟩
  | some x =>
    refine Wl.congr (t := lenCore x) (fun w => ?_) ?_
    · unfold Builtin.len_
      simp only [h0, hx]
      rw [Sem.run_bind, h1, Result.andThen_ok]
      cases x <;> rfl
    · cases x
      case slice a len cap => exact Wl.pure _
      all_goals exact Wl.halt _
end

/-- The operations of which it is known. -/
def pureOp (P : Program) : Op → Bool
  | .move _ | .assign _ | .pick .. | .extract .. => true
  | .slice t .. => match P.underlying t with
    | some (.slice _) => true
    | _ => false
  | .call c => match c.callee, c.argTypes[0]? with
    | .builtin .len, some t => (match P.underlying t with
      | some (.slice _) => true
      | _ => false)
    | _, _ => false
  | _ => false
theorem pureOp_wl {P : Program} {o : Oper} (h : pureOp P o.op = true) (ρ : Operand → Value) : ∃ s : Sem Value, (∀ w, (execOp ρ o).run P w = (s.run P w).andThen fun v w' => .ok (.value v) w') ∧ Wl P s := by
  obtain ⟨dst, op, type, pos, after, guard⟩ := o
  cases op <;> simp only [pureOp] at h <;> (try cases h)
  case move x => exact ⟨Pure.pure (ρ x), fun w => rfl, Wl.pure _⟩
  case assign x => exact ⟨Pure.pure (ρ x), fun w => rfl, Wl.pure _⟩
  case pick c a b => exact ⟨Go.asBool (ρ c) >>= fun t => Pure.pure (if t then ρ a else ρ b), fun w => by simp only [execOp, Sem.run_bind]; cases (Go.asBool (ρ c)).run P w <;> rfl, Wl.bind (Wl.asBool _) fun _ => Wl.pure _⟩
  case extract t i => exact ⟨Instr.extract (ρ t) i, fun w => by simp only [execOp, Sem.run_bind]; rfl, Wl.extract _ _⟩
  case slice t x lo hi mx =>
    split at h
    · rename_i e ht
      exact ⟨Instr.sliceAt t (ρ x) (lo.map ρ) (hi.map ρ) (mx.map ρ), fun w => by simp only [execOp, Sem.run_bind]; rfl, Wl.slice ht _ _ _ _⟩
    · cases h
  case call c =>
    split at h
    · rename_i t hc h0
      split at h
      · rename_i e ht
        refine ⟨Builtin.len_ c.argTypes type (c.args.map ρ), fun w => ?_, Wl.len ht _ h0 _ _⟩
        obtain ⟨callee, args, ats⟩ := c
        simp only at hc
        subst hc
        simp only [execOp, resolve, invoke, builtin, Sem.run_bind, Sem.run_pure, Result.andThen_ok]
      · cases h
    · cases h

/-- Q at a normal end, nothing else. -/
abbrev Sure (Q : Exit → Act → World → Prop) : Exit → Act → World → Prop := Exit.then (fun a w => Q .normal a w) (fun _ _ _ => False)
theorem Sure.imp {Q : Exit → Act → World → Prop} : ∀ (e : Exit) (a : Act) (w : World), Sure Q e a w → Q e a w := fun e a w h => by
  cases e <;> first | exact h | exact (h : False).elim

section
variable {P : Program} {ops : Array Oper} {Q : Exit → Act → World → Prop} {md : Region.Mode}
theorem pure_yields {o : Oper} {a : Act} {w : World} {K : Act → World → Prop} (hp : pureOp P o.op = true) (h : o.wp P a w K (Sure Q)) : ∃ v, (∀ w', (execOp a.eval o).run P w' = .ok (.value v) w') ∧ K (a.put o.dst v) w := by
  obtain ⟨s, hs, hw⟩ := pureOp_wl (P := P) hp a.eval
  unfold Oper.wp at h
  rw [hs] at h
  cases hr : s.run P w with
  | halt e w' =>
    rw [hr, Result.andThen_halt] at h
    cases e <;> exact (h : False).elim
  | ok v w' =>
    obtain ⟨rfl, h2⟩ := hw w v w' hr
    rw [hr, Result.andThen_ok] at h
    exact ⟨v, fun w' => by rw [hs, h2, Result.andThen_ok], h⟩

/-- The order may be taken: each operation stands alone where it comes up, or looks at no memory and is apart from what is to come. -/
def okOrder (P : Program) (md : Region.Mode) (ops : Array Oper) : List Nat → Array Bool → Bool
  | [], listed => (Region.ready md ops listed).isEmpty
  | i :: rest, listed =>
    ((Region.ready md ops listed == [i]) || ((Region.ready md ops listed).contains i && Region.free md ops listed i && (match ops[i]? with | some o => pureOp P o.op | none => false))) && okOrder P md ops rest (listed.setIfInBounds i true)

theorem seq_any (hs : Region.noSelect ops = true) : ∀ (order : List Nat) (listed : Array Bool) (fuel : Nat) (a : Act) (w : World), okOrder P md ops order listed = true → order.length ≤ fuel →
    wpList P ops (Sure Q) (order.filterMap (ops[·]?)) a w → wpAny P md ops (Sure Q) fuel listed a w := by
  intro order
  induction order with
  | nil =>
    intro listed fuel a w hok _ h
    simp only [okOrder, List.isEmpty_iff] at hok
    exact wpAny_done hok h fuel
  | cons i rest ih =>
    intro listed fuel a w hok hf h
    obtain ⟨fuel, rfl⟩ : ∃ m, fuel = m + 1 := ⟨fuel - 1, by simp at hf; omega⟩
    simp only [okOrder, Bool.and_eq_true] at hok
    obtain ⟨h1, h2⟩ := hok
    have hmem : i ∈ Region.ready md ops listed := by
      rcases Bool.or_eq_true _ _ ▸ h1 with h | h
      · rw [eq_of_beq h]; simp
      · simp only [Bool.and_eq_true] at h
        simpa using h.1.1
    obtain ⟨_, o, ho, _⟩ := mem_ready.1 hmem
    rw [List.filterMap_cons, ho] at h
    simp only at h
    have hl : rest.length ≤ fuel := by simp at hf; omega
    have go : ∀ a w, wpList P ops (Sure Q) (rest.filterMap (ops[·]?)) a w → wpAny P md ops (Sure Q) fuel (listed.setIfInBounds i true) a w := fun a w => ih _ fuel a w h2 hl
    unfold wpList at h
    rcases Bool.or_eq_true _ _ ▸ h1 with hb | hb
    · refine wpAny_all (eq_of_beq hb) (by simp) fun j hj => ?_
      simp only [List.mem_singleton] at hj
      subst hj
      unfold wpOp
      simp only [ho]
      split
      · rename_i hw
        rw [if_pos hw] at h
        rcases h with h | ⟨_, a', w', h⟩
        · exact .inl (Oper.wp_mono go h)
        · exact (h : False).elim
      · rename_i hw
        rw [if_neg hw] at h
        exact go _ _ h
    · simp only [Bool.and_eq_true, ho] at hb
      obtain ⟨⟨hc, hfr⟩, hp⟩ := hb
      have take : ∀ v, Yields P ops o v a → wpAny P md ops (Sure Q) fuel (listed.setIfInBounds i true) (a.put o.dst v) w → wpAny P md ops (Sure Q) (fuel + 1) listed a w := fun v hy h =>
        wpAny_take ho hs hfr hc (fun _ _ _ h => h) hy h
      by_cases hw : Region.wanted o (yielded ops a.tmps) = true
      · rw [if_pos hw] at h
        rcases h with h | ⟨_, a', w', h⟩
        · obtain ⟨v, hv, hk⟩ := pure_yields hp h
          exact take v (.inl ⟨hw, hv⟩) (go _ _ hk)
        · exact (h : False).elim
      · rw [if_neg hw] at h
        exact take undef (.inr ⟨by simpa using hw, rfl⟩) (go _ _ h)
end

/-- A region that draws its order, walked in the order given. -/
theorem wp_region_seq {P : Program} {id : Nat} {l : List Oper} {Q : Exit → Act → World → Prop} {a : Act} {w : World} (order : List Nat) (os : List Oper) (hm : P.follows .mixedOrders = true) (hs : Region.noSelect l.toArray = true)
    (hok : okOrder P .any l.toArray order (Array.replicate l.length false) = true) (hl : order.length ≤ l.length) (hos : order.filterMap (l.toArray[·]?) = os)
    (h : ∀ (Q0 : Exit → Act → World → Prop) (K : Act → World → Prop), (∀ a w, Q .normal a w → K a w) → wpList P l.toArray (Exit.then K Q0) os a w.drew) : (Code.region id l.toArray true).wp P Q a w := by
  subst hos
  refine Code.wp_mono Sure.imp (wp_region_any hm ?_)
  have := seq_any (md := .any) hs order (Array.replicate l.length false) l.length a w.drew hok hl (h (fun _ _ _ => False) (fun a w => Q .normal a w) (fun _ _ h => h))
  simpa using this
end Go.Proofs.Ytddphdkhaaolmaa
