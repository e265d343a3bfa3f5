/- A region that draws its order, walked by hand in one order: what looks at memory is taken under a condition on the world that all else keeps; loads of structs that lie in a block. -/
import Derived.Test.YtddphdkhaaolmaaLast
import Derived.Test.YtddphdkhaaolmaaSeq
import Derived.Deep.MidRow
namespace Go.Proofs.Ytddphdkhaaolmaa
open Go.RowKit

theorem wp_region_hand {P : Program} {id : Nat} {l : List Oper} {Q : Exit → Act → World → Prop} {a : Act} {w : World} (S : World → Prop) (hm : P.follows .mixedOrders = true)
    (h : wpAnyH P .any l.toArray (Sure Q) S l.length (Array.replicate l.length false) a w.drew) : (Code.region id l.toArray true).wp P Q a w := by
  refine Code.wp_mono Sure.imp (wp_region_any hm ?_)
  rw [List.size_toArray]
  exact wpAny_of_held _ _ _ _ h
/-- A struct that lies in a block from cell o on, read at once. -/
theorem load_part {P : Program} {w : World} {b o : Nat} {t e : TypeId} {cs l : Array Value} {d : TypeDesc} (h : Blk w b e cs) (hl : ∀ j v, l[j]? = some v → cs[o + j]? = some v) (hu : P.underlying t = some d) (hd : d.isRow = true) (hi : (P.info? t).map (·.size) = some l.size) : (Instr.loadAt t (.pointer (some ⟨b, o, none⟩))).run P w = .ok (.agg l) w := by
  have := run_loadAt_mid (P := P) w b o t l.toList d (fun j v hv => by rw [h.cell]; exact hl j v (by simpa using hv)) hu hd (by simpa using hi)
  simpa using this
theorem wpList_load_part {P : Program} {w : World} {b o : Nat} {t e : TypeId} {cs l : Array Value} {d : TypeDesc} {ops : Array Oper} {rest : List Oper} {op : Oper} {a : Act} {Q : Exit → Act → World → Prop} {x : Operand} (h : Blk w b e cs) (hl : ∀ j v, l[j]? = some v → cs[o + j]? = some v) (hu : P.underlying t = some d) (hd : d.isRow = true) (hi : (P.info? t).map (·.size) = some l.size)
    (hgd : op.guard = none) (ho : op.op = .load t x) (hx : a.eval x = .pointer (some ⟨b, o, none⟩)) (hk : wpList P ops Q rest (a.put op.dst (.agg l)) w) : wpList P ops Q (op :: rest) a w :=
  wpList_load_mid hgd t x ho b o hx l.toList d (fun j v hv => by rw [h.cell]; exact hl j v (by simpa using hv)) hu hd (by simpa using hi) (by simpa using hk)
/-- A load whose run is known. -/
theorem exec_loads {P : Program} {o : Oper} {ρ : Operand → Value} {t : TypeId} {x : Operand} {p v : Value} {w : World} (ho : o.op = .load t x) (hx : ρ x = p) (h : (Instr.loadAt t p).run P w = .ok v w) : (execOp ρ o).run P w = .ok (.value v) w := by
  unfold execOp
  simp only [ho, hx, Sem.run_bind, h, Result.andThen_ok, Sem.run_pure]
theorem Blk.row {w : World} {b : Nat} {e : TypeId} {cs0 : Array Value} (h : Blk w b e cs0) (cs : Array Value) : Blk (w.setRow b cs) b e cs := setRow_heap w b cs0 cs e (0, 0) h
theorem Blk.rowOther {w : World} {b g : Nat} {e : TypeId} {cs0 : Array Value} (h : Blk w b e cs0) (hn : b ≠ g) (cs : Array Value) : Blk (w.setRow g cs) b e cs0 := (setRow_other w g b cs hn).trans h
theorem Below.row {w0 w : World} {B g : Nat} (h : Below B w0 w) (hg : B ≤ g) (cs : Array Value) : Below B w0 (w.setRow g cs) :=
  ⟨h.os, h.tape, h.output, by simpa [World.setRow] using h.size, fun k hk => (setRow_other w g k cs (by omega)).trans (h.block k hk)⟩
/-- A struct is stored over a whole block. -/
theorem wp_store_blk {P : Program} {o : Oper} {a : Act} {w : World} {K : Act → World → Prop} {Q : Exit → Act → World → Prop} {b : Nat} {t e : TypeId} {cs0 cs : Array Value} {x y : Operand} (h : Blk w b e cs0) (hi : (P.info? t).map (·.size) = some cs.size) (hsz : cs0.size = cs.size) (h1 : cs.all (·.oneCell') = true)
    (ho : o.op = .store t x y) (hx : a.eval x = .pointer (some ⟨b, 0, none⟩)) (hy : a.eval y = .agg cs) (hk : K (a.put o.dst undef) (w.setRow b cs)) : o.wp P a w K Q := by
  unfold Oper.wp execOp
  simp only [ho, hx, hy, Instr.storeAt, Instr.sureAddr, Sem.run_bind, Sem.run_pure, Result.andThen_ok, run_storeVar_row w b e t cs0 cs h hi hsz h1]
  exact hk
theorem step_store_blk {P : Program} {ops : Array Oper} {o : Oper} {a : Act} {w : World} {K : Act → World → Prop} {Q : Exit → Act → World → Prop} {E : Prop} {b : Nat} {t e : TypeId} {cs0 cs : Array Value} {x y : Operand} (h : Blk w b e cs0) (hi : (P.info? t).map (·.size) = some cs.size) (hsz : cs0.size = cs.size) (h1 : cs.all (·.oneCell') = true)
    (hgd : o.guard = none) (ho : o.op = .store t x y) (hx : a.eval x = .pointer (some ⟨b, 0, none⟩)) (hy : a.eval y = .agg cs) (hk : K (a.put o.dst undef) (w.setRow b cs)) : if Region.wanted o (yielded ops a.tmps) = true then Oper.wp P o a w K Q else E := by
  have hw : Region.wanted o (yielded ops a.tmps) = true := by simp [Region.wanted, hgd]
  rw [if_pos hw]
  exact wp_store_blk h hi hsz h1 ho hx hy hk
theorem wpList_store_blk {P : Program} {ops : Array Oper} {rest : List Oper} {o : Oper} {a : Act} {w : World} {Q : Exit → Act → World → Prop} {b : Nat} {t e : TypeId} {cs0 cs : Array Value} {x y : Operand} (h : Blk w b e cs0) (hi : (P.info? t).map (·.size) = some cs.size) (hsz : cs0.size = cs.size) (h1 : cs.all (·.oneCell') = true)
    (hgd : o.guard = none) (ho : o.op = .store t x y) (hx : a.eval x = .pointer (some ⟨b, 0, none⟩)) (hy : a.eval y = .agg cs) (hk : wpList P ops Q rest (a.put o.dst undef) (w.setRow b cs)) : wpList P ops Q (o :: rest) a w :=
  wpList_plain hgd fun _ hK => wp_store_blk h hi hsz h1 ho hx hy (hK _ _ hk)
end Go.Proofs.Ytddphdkhaaolmaa
