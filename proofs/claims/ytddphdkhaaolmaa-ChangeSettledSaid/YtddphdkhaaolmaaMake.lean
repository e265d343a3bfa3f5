/- make of a slice with elements of any size, in a region that draws its order too; a row of pairs of zeros. -/
import Derived.Test.YtddphdkhaaolmaaHand
import Derived.Laws.MakeOwn
namespace Go.Proofs.Ytddphdkhaaolmaa
open Go.RowKit

theorem run_make_any {P : Program} (t e : TypeId) (z : Value) (sz bytes : Nat) (ht : P.underlying t = some (.slice e)) (hinfo : (P.info? e).map (fun i => (i.zero, i.size, i.bytes)) = some (some z, sz, bytes)) (kl kc : IntKind) (n : Nat) (hb : bytes * n ≤ 281474976710656) (h63 : n ≤ 9223372036854775807) (w : World) :
    (Instr.makeSlice t (.int kl (n : Int)) (.int kc (n : Int))).run P w = .ok (.slice (some ⟨w.heap.size, 0, none⟩) n n) (w.alloc (.cells (madeCells z.cells (n * sz)) e)) := by
  obtain ⟨i, hi, hzz⟩ := Option.map_eq_some_iff.1 hinfo
  simp only [Prod.mk.injEq] at hzz
  obtain ⟨hz, hs, hbt⟩ := hzz
  have hb' : (i.bytes : Int) * (n : Int) ≤ 281474976710656 := by
    have h : ((i.bytes * n : Nat) : Int) ≤ 281474976710656 := by rw [hbt]; omega
    rwa [Int.natCast_mul] at h
  have hr := run_make (P := P) w t e i z ht hi hz kl kc n n (by omega) (Int.le_refl _) hb' (by omega)
  simp only [Int.toNat_natCast, hs] at hr
  exact hr
theorem step_make {P : Program} {ops : Array Oper} {o : Oper} {a : Act} {w : World} {K : Act → World → Prop} {Q : Exit → Act → World → Prop} {E : Prop} {x y : Operand} {t e : TypeId} {z : Value} {sz bytes : Nat} (ht : P.underlying t = some (.slice e)) (hinfo : (P.info? e).map (fun i => (i.zero, i.size, i.bytes)) = some (some z, sz, bytes)) {kl kc : IntKind} {n : Nat} (hb : bytes * n ≤ 281474976710656) (h63 : n ≤ 9223372036854775807)
    (hgd : o.guard = none) (ho : o.op = .makeSlice t x y) (hx : a.eval x = .int kl (n : Int)) (hy : a.eval y = .int kc (n : Int)) (hk : K (a.put o.dst (.slice (some ⟨w.heap.size, 0, none⟩) n n)) (w.alloc (.cells (madeCells z.cells (n * sz)) e))) : if Region.wanted o (yielded ops a.tmps) = true then Oper.wp P o a w K Q else E := by
  have hw : Region.wanted o (yielded ops a.tmps) = true := by simp [Region.wanted, hgd]
  rw [if_pos hw]
  have hrun := run_make_any (P := P) t e z sz bytes ht hinfo kl kc n hb h63 w
  unfold Oper.wp execOp
  simp only [ho, hx, hy, hrun, Sem.run_bind, Sem.run_pure, Result.andThen_ok]
  exact hk
theorem zero_pairs (w : World) (n : Nat) (e : TypeId) : Rds Nn (w.alloc (.cells (madeCells #[.int .i64 0, .int .i64 0] (n * 2)) e)) 2 (some ⟨w.heap.size, 0, none⟩) n (ints (List.replicate n [0, 0]).flatten) := by
  have hf : (List.replicate n [(0 : Int), 0]).flatten = List.replicate (n * 2) 0 := List.flatten_replicate_replicate (n := n) (m := 2) (a := (0 : Int))
  rw [hf]
  refine ⟨by simp [ints], fun hn => ⟨_, rfl, by simp, id, fun j u hu => ?_⟩⟩
  unfold ints at hu
  rw [List.map_replicate, List.getElem?_replicate] at hu
  split at hu
  · rename_i hj
    injection hu with hu
    subst hu
    rw [add_at, (Blk.at_new w rfl).cell]
    have h2 : j % 2 = 0 ∨ j % 2 = 1 := by omega
    rcases h2 with h2 | h2
    all_goals simp [madeCells, hj, h2]
  · cases hu
/-- A struct of two cells that lies anywhere, read at once. -/
theorem load_two {P : Program} {w : World} {b o : Nat} {t : TypeId} {x y : Value} {d : TypeDesc} (h1 : w.cell? ⟨b, o, none⟩ = some x) (h2 : w.cell? ⟨b, o + 1, none⟩ = some y) (hu : P.underlying t = some d) (hd : d.isRow = true) (hi : (P.info? t).map (·.size) = some 2) : (Instr.loadAt t (.pointer (some ⟨b, o, none⟩))).run P w = .ok (.agg #[x, y]) w := by
  have := run_loadAt_mid (P := P) w b o t [x, y] d (fun j v hv => by
    match j, hv with
    | 0, hv => simp at hv; subst hv; exact h1
    | 1, hv => simp at hv; subst hv; exact h2
    | j + 2, hv => simp at hv) hu hd (by simpa using hi)
  simpa using this
end Go.Proofs.Ytddphdkhaaolmaa
