/- Chapter 38: the closure that lists the patterns. -/
import Derived.Test.YtccgbojcghbdcaaSPn2
namespace Go.Proofs.Ytccgbojcghbdcaa
open Go.RowKit

theorem Rds.grow {S S' : Nat → Prop} {w w1 : World} {sz n : Nat} {A : Option Addr} {xs : List Value} (h : Rds S w sz A n xs) (hc : Chg S w w1) (hs : ∀ b, b < w.heap.size → S' b → S b) : Rds S' w1 sz A n xs :=
  ⟨h.1, fun hn => by obtain ⟨ad, e, h1, h2, h3⟩ := (h.keep hc).2 hn; obtain ⟨ad', e', h1', h2', _⟩ := h.2 hn; rw [e] at e'; injection e' with e'; subst e'; exact ⟨ad, e, h1, fun hq => h2 (hs _ h1' hq), h3⟩⟩
theorem PRow.grow {S S' : Nat → Prop} {w w1 : World} {vs : List Value} {L : List (List Int)} (h : PRow S w vs L) (hc : Chg S w w1) (hs : ∀ b, b < w.heap.size → S' b → S b) : PRow S' w1 vs L :=
  ⟨h.1, fun i l hl => by obtain ⟨A, c, e, r⟩ := h.2 i l hl; exact ⟨A, c, e, r.grow hc hs⟩⟩
theorem PRow.below' {S : Nat → Prop} {w w' : World} {vs : List Value} {L : List (List Int)} (h : PRow S w vs L) (hb : Below w.heap.size w w') : PRow S w' vs L :=
  ⟨h.1, fun i l hl => by obtain ⟨A, c, e, r⟩ := h.2 i l hl; exact ⟨A, c, e, r.below hb⟩⟩
theorem int_set (l : List Int) (k : Nat) (x : Int) : (ints l).set k (.int .i64 x) = ints (l.set k x) := by unfold ints; rw [List.map_set]
/-- Where the captured variables lie, and what the deckle is. -/
structure Env where
  po : Nat
  pm : Nat
  pc : Nat
  pd : Nat
  pf : Nat
  g : Nat
  N : Nat
  W : Int
  E : Int
  T : Int
  J : Int
  a : Option Addr
  c : Nat
  n : Nat
  m : Nat
  zs : List Int
  w0 : World
structure Env.Ok (q : Env) : Prop where
  r : Rds Nn q.w0 1 q.a q.n (ints q.zs)
  hn : q.n = q.zs.length
  right : Right q.W q.E q.T q.J q.zs
  hm : q.m ≤ 100000
  low : q.w0.heap.size ≤ q.po ∧ q.w0.heap.size ≤ q.g
  high : q.po < q.N ∧ q.pm < q.N ∧ q.pc < q.N ∧ q.pd < q.N ∧ q.pf < q.N ∧ q.g < q.N
  neo : q.po ≠ q.pm ∧ q.po ≠ q.pc ∧ q.po ≠ q.pd ∧ q.po ≠ q.pf ∧ q.po ≠ q.g
  neg : q.g ≠ q.pm ∧ q.g ≠ q.pc ∧ q.g ≠ q.pd ∧ q.g ≠ q.pf
/-- What the captured variables hold: the list L, in the slice v; the numbers cs. -/
structure CI (q : Env) (v : Value) (cs : List Int) (L : List (List Int)) (w : World) : Prop where
  o : Blk w q.po 89 #[v]
  m : Blk w q.pm 3 #[.int .i64 q.m]
  c : Blk w q.pc 30 #[.slice (some ⟨q.g, 0, none⟩) q.n q.n]
  d : Blk w q.pd 32 #[.int .i64 q.W, .int .i64 q.E, .int .i64 q.T, .int .i64 q.J, .slice q.a q.n q.c]
  f : Blk w q.pf 98 #[(.func (.func 66) #[] #[.pointer (some ⟨q.po, 0, none⟩), .pointer (some ⟨q.pm, 0, none⟩), .pointer (some ⟨q.pc, 0, none⟩), .pointer (some ⟨q.pd, 0, none⟩), .pointer (some ⟨q.pf, 0, none⟩)])]
  arr : Blk w q.g 3 (ints cs).toArray
  len : cs.length = q.n
  row : ∃ vs, w.ownsRow q.N 30 1 v L.length vs ∧ PRow (fun b => v.ownBlock = some b ∨ b < q.N) w vs L
  bel : Below q.w0.heap.size q.w0 w
  sz : q.N ≤ w.heap.size
theorem CI.setArr {q : Env} {v : Value} {cs : List Int} {L : List (List Int)} {w : World} (hq : q.Ok) (h : CI q v cs L w) (k : Nat) (x : Int) : CI q v (cs.set k x) L (w.setCell ⟨q.g, k, none⟩ (.int .i64 x)) := by
  obtain ⟨n1, n2, n3, n4⟩ := hq.neg
  obtain ⟨vs, hv, hp⟩ := h.row
  have hg := hq.high.2.2.2.2.2
  refine ⟨h.o.other hq.neo.2.2.2.2 _, h.m.other (Ne.symm n1) _, h.c.other (Ne.symm n2) _, h.d.other (Ne.symm n3) _, h.f.other (Ne.symm n4) _, ?_, by rw [List.length_set]; exact h.len, ⟨vs, ?_, ?_⟩, h.bel.setCell hq.low.2 _, by simpa [World.setCell] using h.sz⟩
  · have := h.arr.set k (.int .i64 x)
    rw [List.setIfInBounds_toArray, int_set] at this
    exact this
  · exact own_keep hv ((Chg.refl (fun b => b = q.g) _).setCell (a := ⟨q.g, k, none⟩) (.inl rfl) _) (fun b hb e => by have := (own_blk hv b hb).1; omega)
  · exact hp.keep ((Chg.refl _ _).setCell (a := ⟨q.g, k, none⟩) (.inl (.inr hg)) _)
theorem CI.app {q : Env} {v v' : Value} {cs : List Int} {L : List (List Int)} {w w1 w2 : World} {vs : List Value} {l : List Int} {A : Option Addr} {c : Nat} (hq : q.Ok) (h : CI q v cs L w) (hv : w.ownsRow q.N 30 1 v L.length vs) (hp : PRow (fun b => v.ownBlock = some b ∨ b < q.N) w vs L) (hb : Below w.heap.size w w1) (hr : Rds (fun b => b < w.heap.size) w1 1 A l.length (ints l)) (hown : w2.ownsRow 0 30 1 v' (L.length + 1) (vs ++ [Value.slice A l.length c])) (hchg : Chg (Rw v) w1 w2) (hnew : Newer w1 v v') : CI q v' cs (L ++ [l]) (w2.setCell ⟨q.po, 0, none⟩ v') := by
  obtain ⟨n1, n2, n3, n4, n5⟩ := hq.neo
  obtain ⟨k1, k2, k3, k4, k5, k6⟩ := hq.high
  have sz := h.sz
  have hlow : ∀ b, b < q.N → ¬ Rw v b := fun b hb e => by have := (own_blk hv b e).1; omega
  have hsz := hb.size
  have hsz2 := hchg.size
  have hown2 : w2.ownsRow q.N 30 1 v' (L.length + 1) (vs ++ [Value.slice A l.length c]) := own_rebase hown (fun b hb2 => by
    rcases hnew b hb2 with e | e
    · exact (own_blk hv b e).1
    · omega)
  have hpo : ∀ (S : Nat → Prop), S q.po → Chg S w2 (w2.setCell ⟨q.po, 0, none⟩ v') := fun S hS => (Chg.refl S _).setCell (a := ⟨q.po, 0, none⟩) (.inl hS) _
  refine ⟨?_, (((h.m.below hb h.m.lt).keep hchg (hlow _ k2)).other (Ne.symm n1) _), (((h.c.below hb h.c.lt).keep hchg (hlow _ k3)).other (Ne.symm n2) _), (((h.d.below hb h.d.lt).keep hchg (hlow _ k4)).other (Ne.symm n3) _), (((h.f.below hb h.f.lt).keep hchg (hlow _ k5)).other (Ne.symm n4) _), (((h.arr.below hb h.arr.lt).keep hchg (hlow _ k6)).other (Ne.symm n5) _), h.len, ⟨vs ++ [Value.slice A l.length c], ?_, ?_⟩, ?_, ?_⟩
  · exact ((h.o.below hb h.o.lt).keep hchg (hlow _ k1)).set 0 v'
  · rw [List.length_append]
    exact own_keep hown2 (hpo (fun b => b = q.po) rfl) (fun b hb2 e => by have := (own_blk hown2 b hb2).1; omega)
  · have c1 : Chg (fun b => v.ownBlock = some b ∨ b < q.N) w1 w2 := hchg.mono (fun b _ e => .inl e)
    have c2 : Chg (fun b => b < w.heap.size) w1 w2 := hchg.mono (fun b _ e => (own_blk hv b e).2)
    refine (PRow.snoc ((hp.below' hb).grow c1 (fun b hb2 hs => ?_)) (hr.grow c2 (fun b hb2 hs => ?_))).keep (hpo _ (.inr k1))
    · rcases hs with e | e
      · rcases hnew b e with e2 | e2
        · exact .inl e2
        · omega
      · exact .inr e
    · rcases hs with e | e
      · rcases hnew b e with e2 | e2
        · exact (own_blk hv b e2).2
        · omega
      · omega
  · refine Below.setCell (Below.trans (h.bel.trans (hb.mono h.bel.size)) (hchg.below (Nat.le_trans h.bel.size hsz) (fun b hb2 e => ?_))) hq.low.1 _
    have := (own_blk hv b e).1
    have := hq.low.1
    omega
  · have : w2.heap.size ≤ (w2.setCell ⟨q.po, 0, none⟩ v').heap.size := (hpo (fun _ => True) trivial).size
    omega
theorem mid_set (pre : List Int) (y x : Int) (d k : Nat) (hk : k = pre.length) : (pre ++ y :: List.replicate d 0).set k x = pre ++ x :: List.replicate d 0 := by
  subst hk
  rw [List.set_append_right _ _ (Nat.le_refl _), Nat.sub_self, List.set_cons_zero]
theorem take_le {α : Type} {m : Nat} {L X : List α} (h : L.length = m) : (L ++ X).take m = L := by
  rw [List.take_append_of_le_length (by omega), List.take_of_length_le (by omega)]
end Go.Proofs.Ytccgbojcghbdcaa
