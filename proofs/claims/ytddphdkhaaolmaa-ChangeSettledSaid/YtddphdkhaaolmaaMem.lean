/- Words for memory: which blocks a call has changed; a slice that reads as a list; a row of numbers that a call owns. -/
import Derived.WalkKit
import Derived.Deep.Draws
import Derived.Deep.OwnRows
import Derived.Deep.AppendLies
import Derived.Maps.AppendAt
import Derived.Laws.CopyOwn
namespace Go.Proofs.Ytddphdkhaaolmaa
open Go.RowKit

/-- A fact that the walk does not look into. -/
theorem hid {p : Prop} (h : p) : Hid p := h

/-- Of the blocks that there were, only those in S may have changed. -/
structure Chg (S : Nat → Prop) (w w' : World) : Prop where
  os : w'.os = w.os
  tape : w'.tape = w.tape
  output : w'.output = w.output
  size : w.heap.size ≤ w'.heap.size
  block : ∀ k, k < w.heap.size → ¬ S k → w'.heap[k]? = w.heap[k]?

/-- None of them. -/
def Nn : Nat → Prop := fun _ => False

section
variable {S S' : Nat → Prop} {w w0 w1 w2 : World}
theorem Chg.refl (S : Nat → Prop) (w : World) : Chg S w w := ⟨rfl, rfl, rfl, Nat.le_refl _, fun _ _ _ => rfl⟩
theorem Chg.trans (h : Chg S w w1) (k : Chg S' w1 w2) (hs : ∀ b, b < w.heap.size → S' b → S b) : Chg S w w2 :=
  ⟨k.os.trans h.os, k.tape.trans h.tape, k.output.trans h.output, Nat.le_trans h.size k.size, fun i hi hn => (k.block i (Nat.lt_of_lt_of_le hi h.size) (fun e => hn (hs i hi e))).trans (h.block i hi hn)⟩
theorem Chg.mono (h : Chg S w w1) (hs : ∀ b, b < w.heap.size → S b → S' b) : Chg S' w w1 :=
  ⟨h.os, h.tape, h.output, h.size, fun i hi hn => h.block i hi (fun e => hn (hs i hi e))⟩
theorem Chg.drew (h : Chg S w w1) : Chg S w w1.drew := ⟨h.os, h.tape, h.output, h.size, h.block⟩
theorem Chg.drewN (h : Chg S w w1) (n : Nat) : Chg S w (w1.drewN n) := ⟨h.os, h.tape, h.output, h.size, h.block⟩
theorem Chg.alloc (h : Chg S w w1) (o : Obj) : Chg S w (w1.alloc o) :=
  ⟨h.os, h.tape, h.output, by rw [World.size_alloc]; have := h.size; omega, fun i hi hn => (Below.heap_alloc _ _ _ (Nat.lt_of_lt_of_le hi h.size)).trans (h.block i hi hn)⟩
theorem Chg.setCell (h : Chg S w w1) {a : Addr} (ha : S a.block ∨ w.heap.size ≤ a.block) (u : Value) : Chg S w (w1.setCell a u) :=
  ⟨h.os, h.tape, h.output, by simpa [World.setCell] using h.size, fun i hi hn => (Below.heap_setCell _ _ _ _ (fun e => by subst e; rcases ha with ha | ha; exact hn ha; omega)).trans (h.block i hi hn)⟩
theorem Chg.setRow (h : Chg S w w1) {g : Nat} (ha : S g ∨ w.heap.size ≤ g) (cs : Array Value) : Chg S w (w1.setRow g cs) :=
  ⟨h.os, h.tape, h.output, by simpa [World.setRow] using h.size, fun i hi hn => (setRow_other _ _ _ _ (fun e => by subst e; rcases ha with ha | ha; exact hn ha; omega)).trans (h.block i hi hn)⟩
theorem Chg.grown {row : Option Nat} (h : Chg S w w1) (hg : w1.grownBy w2 row) (hr : ∀ k, row = some k → S k ∨ w.heap.size ≤ k) : Chg S w w2 :=
  h.trans (S' := fun b => some b = row) ⟨hg.os, hg.tape, hg.output, hg.size, fun k hk hn => hg.block k hk hn⟩ (fun b hb e => (hr b e.symm).elim id (fun h => by omega))
theorem Chg.below (h : Chg S w w1) {B : Nat} (hB : B ≤ w.heap.size) (hs : ∀ b, b < B → ¬ S b) : Below B w w1 :=
  ⟨h.os, h.tape, h.output, h.size, fun k hk => h.block k (by omega) (hs k hk)⟩
theorem Chg.of_below {B : Nat} (h : Below B w w1) (hs : ∀ b, b < w.heap.size → B ≤ b → S b) : Chg S w w1 :=
  ⟨h.os, h.tape, h.output, h.size, fun k hk hn => h.block k (by rcases Nat.lt_or_ge k B with h' | h'; exact h'; exact absurd (hs k hk h') hn)⟩
theorem Chg.then_below (h : Chg S w w1) {B : Nat} (hb : Below B w0 w) (hs : ∀ b, b < B → ¬ S b) (hB : B ≤ w.heap.size) : Below B w0 w1 := hb.trans (h.below hB hs)
theorem Chg.cell (h : Chg S w w1) {a : Addr} (ha : a.block < w.heap.size) (hn : ¬ S a.block) : w1.cell? a = w.cell? a := World.cell?_of_block (h.block _ ha hn)
theorem Chg.frozen (h : Chg S w w1) {a : Addr} (ha : a.block < w.heap.size) (hn : ¬ S a.block) : w1.frozen? a = w.frozen? a := World.frozen?_of_block (h.block _ ha hn)
end

/-- Block b is just these cells, of element type t, none of them frozen. -/
def Blk (w : World) (b : Nat) (t : TypeId) (cs : Array Value) : Prop := w.heap[b]? = some (.cells cs t (0, 0))
section
variable {w w' : World} {b : Nat} {t : TypeId} {cs : Array Value} {S : Nat → Prop}
theorem Blk.lt (h : Blk w b t cs) : b < w.heap.size := by
  rcases Nat.lt_or_ge b w.heap.size with h' | h'
  · exact h'
  · unfold Blk at h; rw [Array.getElem?_eq_none h'] at h; cases h
theorem Blk.cell (h : Blk w b t cs) (i : Nat) : w.cell? ⟨b, i, none⟩ = cs[i]? := by unfold Blk at h; simp [World.cell?, h]
theorem Blk.frozen (h : Blk w b t cs) (i : Nat) : w.frozen? ⟨b, i, none⟩ = false := by unfold Blk at h; simp [World.frozen?, h]
theorem Blk.keep (h : Blk w b t cs) (hc : Chg S w w') (hn : ¬ S b) : Blk w' b t cs := (hc.block b h.lt hn).trans h
theorem Blk.below {B : Nat} (h : Blk w b t cs) (hc : Below B w w') (hn : b < B) : Blk w' b t cs := (hc.block b hn).trans h
theorem Blk.set (h : Blk w b t cs) (i : Nat) (u : Value) : Blk (w.setCell ⟨b, i, none⟩ u) b t (cs.setIfInBounds i u) := by
  unfold Blk at h ⊢
  simp [World.setCell, Array.getElem?_modify, h]
theorem Blk.alloc (h : Blk w b t cs) (o : Obj) : Blk (w.alloc o) b t cs := (Below.heap_alloc w o b h.lt).trans h
theorem Blk.drew (h : Blk w b t cs) : Blk w.drew b t cs := h
theorem Blk.drewN (h : Blk w b t cs) (n : Nat) : Blk (w.drewN n) b t cs := h
theorem Blk.other (h : Blk w b t cs) {a : Addr} (ha : b ≠ a.block) (u : Value) : Blk (w.setCell a u) b t cs := (Below.heap_setCell w a u b ha).trans h
theorem Blk.at_new (w : World) {b : Nat} {t : TypeId} {cs : Array Value} (hb : b = w.heap.size) : Blk (w.alloc (.cells cs t)) b t cs := by subst hb; exact heap_alloc_new w _
theorem Blk.new (w : World) (t : TypeId) (cs : Array Value) : Blk (w.alloc (.cells cs t)) w.heap.size t cs := heap_alloc_new w _
end

theorem block_add (a : Addr) (n : Nat) : (a.add n).block = a.block := by unfold Addr.add; split <;> rfl
theorem add_add' (a : Addr) (i j : Nat) : (a.add i).add j = a.add (i + j) := by
  unfold Addr.add
  by_cases hi : i = 0 <;> by_cases hj : j = 0 <;> simp [hi, hj, Nat.add_assoc]
theorem add_at (g o j : Nat) : (⟨g, o, none⟩ : Addr).add j = ⟨g, o + j, none⟩ := by unfold Addr.add; split <;> simp_all

/-- The slice '.slice A n c' holds the cells xs ('sz' cells an element), in blocks that S does not hold. -/
def Rds (S : Nat → Prop) (w : World) (sz : Nat) (A : Option Addr) (n : Nat) (xs : List Value) : Prop :=
  xs.length = n * sz ∧ (0 < n → ∃ ad, A = some ad ∧ ad.block < w.heap.size ∧ ¬ S ad.block ∧ ∀ j u, xs[j]? = some u → w.cell? (ad.add j) = some u)
section
variable {S S' : Nat → Prop} {w w' : World} {sz n : Nat} {A : Option Addr} {xs : List Value}
theorem Rds.keep (h : Rds S w sz A n xs) (hc : Chg S w w') : Rds S w' sz A n xs :=
  ⟨h.1, fun hn => by
    obtain ⟨ad, e, hb, hs, hx⟩ := h.2 hn
    exact ⟨ad, e, Nat.lt_of_lt_of_le hb hc.size, hs, fun j u hu => (hc.cell (by rw [block_add]; exact hb) (by rw [block_add]; exact hs)).trans (hx j u hu)⟩⟩
theorem Rds.below (h : Rds S w sz A n xs) (hc : Below w.heap.size w w') : Rds S w' sz A n xs :=
  h.keep (Chg.of_below hc (fun b hb hB => by omega))
theorem Rds.mono (h : Rds S w sz A n xs) (hs : ∀ b, b < w.heap.size → S' b → S b) : Rds S' w sz A n xs :=
  ⟨h.1, fun hn => by
    obtain ⟨ad, e, hb, h1, hx⟩ := h.2 hn
    exact ⟨ad, e, hb, fun h2 => h1 (hs _ hb h2), hx⟩⟩
/-- What came in lies in no newer block. -/
theorem Rds.old (h : Rds Nn w sz A n xs) (hb : Below w.heap.size w w') (hs : ∀ b, S b → w.heap.size ≤ b) : Rds S w' sz A n xs :=
  ⟨h.1, fun hn => by
    obtain ⟨ad, e, hlt, _, hx⟩ := h.2 hn
    exact ⟨ad, e, Nat.lt_of_lt_of_le hlt hb.size, fun h2 => by have := hs _ h2; omega, fun j u hu => (hb.cell (by rw [block_add]; exact hlt)).trans (hx j u hu)⟩⟩
theorem Rds.at_ (h : Rds S w 1 A n xs) {k : Nat} (hk : k < n) : ∃ ad u, A = some ad ∧ xs[k]? = some u ∧ w.cell? (ad.add k) = some u := by
  obtain ⟨ad, e, _, _, hx⟩ := h.2 (by omega)
  have hl : k < xs.length := by have := h.1; omega
  exact ⟨ad, xs[k], e, List.getElem?_eq_getElem hl, hx k _ (List.getElem?_eq_getElem hl)⟩
/-- A slice that holds something begins at a plain address. -/
theorem Rds.plain (h : Rds S w sz A n xs) (hn : 0 < n) (hz : 0 < sz) : ∃ b o, A = some ⟨b, o, none⟩ ∧ b < w.heap.size ∧ ¬ S b ∧ ∀ j u, xs[j]? = some u → w.cell? ⟨b, o + j, none⟩ = some u := by
  obtain ⟨ad, rfl, hb, hs, hx⟩ := h.2 hn
  have hl : 0 < xs.length := by rw [h.1]; exact Nat.mul_pos hn hz
  have h0 := hx 0 _ (List.getElem?_eq_getElem hl)
  obtain ⟨b, o, sp⟩ := ad
  have hsp : sp = none := by
    cases sp with
    | none => rfl
    | some s => exact absurd h0 (by unfold World.cell? Addr.add; simp; split <;> simp)
  subst hsp
  exact ⟨b, o, rfl, hb, hs, fun j u hu => by have := hx j u hu; rwa [add_at] at this⟩
theorem Rds.nil (S : Nat → Prop) (w : World) (sz : Nat) (A : Option Addr) : Rds S w sz A 0 [] := ⟨by simp, fun h => absurd h (by omega)⟩
theorem Rds.cut (h : Rds S w sz A n xs) {k cap : Nat} (hk : k ≤ n) (hc : n ≤ cap) :
    Rds S w sz (if cap = k then A else A.map (·.add (k * sz))) (n - k) (xs.drop (k * sz)) := by
  refine ⟨by rw [List.length_drop, h.1, Nat.sub_mul], fun hn => ?_⟩
  obtain ⟨ad, rfl, hb, hs, hx⟩ := h.2 (by omega)
  rw [if_neg (by omega)]
  refine ⟨ad.add (k * sz), rfl, by rw [block_add]; exact hb, by rw [block_add]; exact hs, fun j u hu => ?_⟩
  rw [add_add']
  exact hx _ u (by rw [← hu, List.getElem?_drop])
theorem Rds.take (h : Rds S w sz A n xs) {k : Nat} (hk : k ≤ n) : Rds S w sz A k (xs.take (k * sz)) := by
  refine ⟨by rw [List.length_take, h.1]; exact Nat.min_eq_left (Nat.mul_le_mul_right _ hk), fun hn => ?_⟩
  obtain ⟨ad, e, hb, hs, hx⟩ := h.2 (by omega)
  refine ⟨ad, e, hb, hs, fun j u hu => hx j u ?_⟩
  rw [List.getElem?_take] at hu
  split at hu
  · exact hu
  · cases hu
theorem Rds.own {base : Nat} {e : TypeId} {c : Nat} (h : w.ownsRow base e sz (.slice A n c) n xs) (hs : ∀ g, (Value.slice A n c).ownBlock = some g → ¬ S g) : Rds S w sz A n xs := by
  refine ⟨h.1, fun hn => ?_⟩
  obtain ⟨g, cap, hv, _, hlt⟩ := h.form hn
  have hA : A = some ⟨g, 0, none⟩ := by injection hv
  subst hA
  exact ⟨_, rfl, hlt, hs g rfl, h.cells (g := g) rfl⟩
end

/-- Whole numbers as cells. -/
def ints (xs : List Int) : List Value := xs.map (Value.int .i64)
theorem ints_length (xs : List Int) : (ints xs).length = xs.length := by simp [ints]
theorem ints_append (xs ys : List Int) : ints (xs ++ ys) = ints xs ++ ints ys := by simp [ints]
theorem ints_cell (xs : List Int) : ∀ u ∈ ints xs, u.oneCell' = true := by intro u hu; simp [ints] at hu; obtain ⟨n, _, rfl⟩ := hu; rfl
theorem ints_get (xs : List Int) (k : Nat) : (ints xs)[k]? = (xs[k]?).map (Value.int .i64) := by simp [ints]

section
variable {w w' : World} {base : Nat} {e : TypeId} {sz n : Nat} {v : Value} {xs : List Value} {S : Nat → Prop}
theorem own_keep (h : w.ownsRow base e sz v n xs) (hc : Chg S w w') (hn : ∀ g, v.ownBlock = some g → ¬ S g) : w'.ownsRow base e sz v n xs := by
  refine ⟨h.1, ?_⟩
  rcases h.2 with h | ⟨g, cap, cur, rfl, hb, hg, r⟩
  · exact .inl h
  · exact .inr ⟨g, cap, cur, rfl, hb, (Blk.keep (t := e) hg hc (hn g rfl)), r⟩
theorem own_base_le {base' : Nat} (h : w.ownsRow base e sz v n xs) (hb : base' ≤ base) : w.ownsRow base' e sz v n xs :=
  ⟨h.1, h.2.elim .inl (fun ⟨g, cap, cur, hv, hg, r⟩ => .inr ⟨g, cap, cur, hv, Nat.le_trans hb hg, r⟩)⟩
theorem own_blk (h : w.ownsRow base e sz v n xs) : ∀ g, v.ownBlock = some g → base ≤ g ∧ g < w.heap.size := by
  intro k hk
  rcases h.2 with ⟨rfl, _⟩ | ⟨g, cap, cur, rfl, hb, hg, _⟩
  · simp [Value.ownBlock] at hk
  · have : g = k := by simpa [Value.ownBlock] using hk
    subst this
    exact ⟨hb, Blk.lt (t := e) hg⟩
theorem own_form (h : w.ownsRow base e sz v n xs) : ∃ A c, v = .slice A n c ∧ n ≤ c ∧ c ≤ maxLen := by
  rcases h.2 with ⟨rfl, rfl⟩ | ⟨g, cap, cur, rfl, _, _, h1, h2, _⟩
  · exact ⟨none, 0, rfl, Nat.le_refl _, by unfold maxLen; omega⟩
  · exact ⟨_, cap, rfl, h1, h2⟩
theorem own_pos (h : w.ownsRow base e sz v n xs) (hn : 0 < n) : ∃ g c, v = .slice (some ⟨g, 0, none⟩) n c ∧ n ≤ c ∧ c ≤ maxLen := by
  rcases h.2 with ⟨rfl, rfl⟩ | ⟨g, cap, cur, rfl, _, _, h1, h2, _⟩
  · omega
  · exact ⟨_, cap, rfl, h1, h2⟩
theorem own_rebase (h : w.ownsRow base e sz v n xs) {base' : Nat} (hb : ∀ g, v.ownBlock = some g → base' ≤ g) : w.ownsRow base' e sz v n xs :=
  ⟨h.1, h.2.elim .inl (fun ⟨g, cap, cur, hv, hg, r⟩ => .inr ⟨g, cap, cur, hv, hb g (by subst hv; rfl), r⟩)⟩
end
end Go.Proofs.Ytddphdkhaaolmaa
