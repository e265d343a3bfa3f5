/- Structs that lie in a block, read and written at once; what a function hands back; worlds that draws alone set apart. -/
import Derived.Test.YtddphdkhaaolmaaCWeb6
import Derived.Test.YtddphdkhaaolmaaMake
namespace Go.Proofs.Ytddphdkhaaolmaa
open Go.RowKit

theorem wpList_load_blk2 {P : Program} {w : World} {b : Nat} {t e : TypeId} {cs : Array Value} {d : TypeDesc} {ops : Array Oper} {rest : List Oper} {op : Oper} {a : Act} {Q : Exit → Act → World → Prop} {x : Operand} (ho : op.op = .load t x) (hgd : op.guard = none) (hx : a.eval x = .pointer (some ⟨b, 0, none⟩)) (hu : P.underlying t = some d) (hd : d.isRow = true) (hi : (P.info? t).map (·.size) = some cs.size)
    (h : Blk w b e cs) (hk : wpList P ops Q rest (a.put op.dst (.agg cs)) w) : wpList P ops Q (op :: rest) a w := wpList_load_blk h hu hd hi hgd ho hx hk
theorem wpList_store_blk2 {P : Program} {ops : Array Oper} {rest : List Oper} {o : Oper} {a : Act} {w : World} {Q : Exit → Act → World → Prop} {b : Nat} {t e : TypeId} {cs0 cs : Array Value} {x y : Operand} (ho : o.op = .store t x y) (hgd : o.guard = none) (hx : a.eval x = .pointer (some ⟨b, 0, none⟩)) (hy : a.eval y = .agg cs) (hi : (P.info? t).map (·.size) = some cs.size) (hsz : cs0.size = cs.size) (h1 : cs.all (·.oneCell') = true)
    (h : Blk w b e cs0) (hk : wpList P ops Q rest (a.put o.dst undef) (w.setRow b cs)) : wpList P ops Q (o :: rest) a w := wpList_store_blk h hi hsz h1 hgd ho hx hy hk
theorem results_cell {P : Program} {fn : Func} {tmps : Array Value} {a b : Nat} {t e : TypeId} {cs : Array Value} {d : TypeDesc} {w : World} (hf : fn.results = #[.cell a t]) (ha : tmps.getD a undef = .pointer (some ⟨b, 0, none⟩)) (h : Blk w b e cs) (hu : P.underlying t = some d) (hd : d.isRow = true) (hi : (P.info? t).map (·.size) = some cs.size) : (results fn tmps).run P w = .ok (.agg cs) w := by
  have hl := run_loadVar_mid (P := P) w b 0 t cs.toList d (fun j v hv => by rw [Nat.zero_add, h.cell]; simpa using hv) hu hd (by simpa using hi)
  unfold results
  rw [hf]
  simp only [List.mapM_toArray, List.mapM_cons, List.mapM_nil, ha, asAddr, Sem.run_bind, Sem.run_pure]
  simp [hl]
/-- A cell of a row of whole numbers, in every later world. -/
theorem num_at {w : World} {A : Option Addr} {n : Nat} {l : List Int} (h : Rds Nn w 1 A n (ints l)) {k : Nat} (hk : k < n) : ∃ p o, ∃ s : Int, A = some ⟨p, o, none⟩ ∧ p < w.heap.size ∧ l[k]? = some s ∧ ∀ W, Below w.heap.size w W → W.cell? ⟨p, o + k, none⟩ = some (.int .i64 s) := by
  obtain ⟨p, o, rfl, hp, _, hr⟩ := Rds.plain h (by omega) (by decide)
  have hl : l.length = n := by have := h.1; simpa [ints] using this
  have e : l[k]? = some l[k] := List.getElem?_eq_getElem (by omega)
  refine ⟨p, o, l[k], rfl, hp, e, fun W hW => ?_⟩
  rw [← hr k (.int .i64 l[k]) (by rw [ints_get, e]; rfl)]; exact World.cell?_of_block (hW.block _ hp)
theorem Rds.allocS {S : Nat → Prop} {w : World} {sz n : Nat} {A : Option Addr} {xs : List Value} (h : Rds S w sz A n xs) (o : Obj) : Rds S (w.alloc o) sz A n xs := h.keep ((Chg.refl S _).alloc _)
theorem Rds.newAt (w : World) (b : Nat) (cs : Array Value) (xs : List Value) (t : TypeId) (n sz : Nat) (hb : b = w.heap.size) (hc : cs = xs.toArray) (hl : xs.length = n * sz) : Rds Nn (w.alloc (.cells cs t)) sz (some ⟨b, 0, none⟩) n xs := by
  subst hb hc
  refine ⟨hl, fun _ => ⟨_, rfl, by simp, id, fun j u hu => ?_⟩⟩
  rw [add_at, (Blk.new w t xs.toArray).cell]
  simpa using hu
end Go.Proofs.Ytddphdkhaaolmaa
