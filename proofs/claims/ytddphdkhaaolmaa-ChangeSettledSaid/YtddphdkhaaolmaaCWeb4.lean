/- Chapter 28: web.Run. -/
import Derived.Test.YtddphdkhaaolmaaCWeb3
import Derived.Deep.MidRow
namespace Go.Proofs.Ytddphdkhaaolmaa
open Go.RowKit

/-- A struct that is a whole block, read at once. -/
theorem load_blk {P : Program} {w : World} {b : Nat} {t e : TypeId} {cs : Array Value} {d : TypeDesc} (h : Blk w b e cs) (hu : P.underlying t = some d) (hd : d.isRow = true) (hi : (P.info? t).map (·.size) = some cs.size) : (Instr.loadAt t (.pointer (some ⟨b, 0, none⟩))).run P w = .ok (.agg cs) w := by
  have := run_loadAt_mid (P := P) w b 0 t cs.toList d (fun j v hv => by rw [Nat.zero_add, h.cell]; simpa using hv) hu hd (by simpa using hi)
  simpa using this
theorem wpList_load_blk {P : Program} {w : World} {b : Nat} {t e : TypeId} {cs : Array Value} {d : TypeDesc} {ops : Array Oper} {rest : List Oper} {op : Oper} {a : Act} {Q : Exit → Act → World → Prop} {x : Operand} (h : Blk w b e cs) (hu : P.underlying t = some d) (hd : d.isRow = true) (hi : (P.info? t).map (·.size) = some cs.size)
    (hgd : op.guard = none) (ho : op.op = .load t x) (hx : a.eval x = .pointer (some ⟨b, 0, none⟩)) (hk : wpList P ops Q rest (a.put op.dst (.agg cs)) w) : wpList P ops Q (op :: rest) a w :=
  wpList_load_mid hgd t x ho b 0 hx cs.toList d (fun j v hv => by rw [Nat.zero_add, h.cell]; simpa using hv) hu hd (by simpa using hi) (by simpa using hk)
/-- Run without an error: the samples, in new memory. -/
def ROk (b : CP) (o v : Int) (S D : List Int) (n : Nat) (w : World) : Ending → World → Prop := fun e w' => ∃ A c, e = .returned (.tuple #[.slice A n c, .int .i64 0]) ∧ w'.ownsRow w.heap.size 94 3 (.slice A n c) n (ints (b.rows o v S D).flatten) ∧ Below w.heap.size w w'
def RNo (b : CP) (o v : Int) (S D : List Int) (w : World) : Ending → World → Prop := fun e w' => ∃ u, e = .returned (.tuple #[u, .int .i64 (b.rErr o v S D)]) ∧ Below w.heap.size w w'
theorem rok_of {b : CP} {o v : Int} {S D : List Int} {n : Nat} {w : World} (h : b.rErr o v S D = 0) (hn : n = S.length) : ∀ e w', RPost b o v S D w e w' → ROk b o v S D n w e w' := by
  subst hn
  rintro e w' ⟨u, rfl, hu, hb⟩
  rw [CP.rows_len h] at hu
  obtain ⟨A, c, rfl, _, _⟩ := own_form hu
  exact ⟨A, c, by rw [h], hu, hb⟩
def RBoth (b : CP) (o v : Int) (S D : List Int) (n : Nat) (w : World) : Ending → World → Prop := fun e w' => ∃ u, e = .returned (.tuple #[u, .int .i64 (b.rErr o v S D)]) ∧ Below w.heap.size w w' ∧ (b.rErr o v S D = 0 → ∃ A c, u = .slice A n c ∧ w'.ownsRow w.heap.size 94 3 (.slice A n c) n (ints (b.rows o v S D).flatten))
theorem rboth_of {b : CP} {o v : Int} {S D : List Int} {n : Nat} {w : World} (hn : n = S.length) : ∀ e w', RPost b o v S D w e w' → RBoth b o v S D n w e w' := by
  subst hn
  rintro e w' ⟨u, rfl, hu, hb⟩
  refine ⟨u, rfl, hb, fun h => ?_⟩
  rw [CP.rows_len h] at hu
  obtain ⟨A, c, rfl, _, _⟩ := own_form hu
  exact ⟨A, c, rfl, hu⟩
theorem rno_of {b : CP} {o v : Int} {S D : List Int} {w : World} : ∀ e w', RPost b o v S D w e w' → RNo b o v S D w e w' := by
  rintro e w' ⟨u, rfl, _, hb⟩
  exact ⟨u, rfl, hb⟩
theorem crun_ok (b : CP) (o v : Int) (a1 a2 : Option Addr) (c1 c2 n : Nat) (S D : List Int) (w : World) (r1 : Rds Nn w 1 a1 n (ints S)) (r2 : Rds Nn w 1 a2 n (ints D)) (h1 : n = S.length) (h2 : n = D.length) (hn : n ≤ 1000000) (he : b.rErr o v S D = 0) : Calls Try.prog 45 #[.agg #[.int .i64 b.kp, .int .i64 b.ki, .int .i64 b.sh, .int .i64 b.lo, .int .i64 b.hi, .int .i64 b.rate, .int .i64 b.ga, .int .i64 b.la, .int .i64 b.de], .int .i64 o, .int .i64 v, .slice a1 n c1, .slice a2 n c2] w (ROk b o v S D n w) :=
  (crun b o v a1 a2 c1 c2 n n S D w r1 r2 h1 h2 (by omega)).mono (rok_of he h1)
theorem crun_bo (b : CP) (o v : Int) (a1 a2 : Option Addr) (c1 c2 n : Nat) (S D : List Int) (w : World) (r1 : Rds Nn w 1 a1 n (ints S)) (r2 : Rds Nn w 1 a2 n (ints D)) (h1 : n = S.length) (h2 : n = D.length) (hn : n ≤ 1000000) : Calls Try.prog 45 #[.agg #[.int .i64 b.kp, .int .i64 b.ki, .int .i64 b.sh, .int .i64 b.lo, .int .i64 b.hi, .int .i64 b.rate, .int .i64 b.ga, .int .i64 b.la, .int .i64 b.de], .int .i64 o, .int .i64 v, .slice a1 n c1, .slice a2 n c2] w (RBoth b o v S D n w) :=
  (crun b o v a1 a2 c1 c2 n n S D w r1 r2 h1 h2 (by omega)).mono (rboth_of h1)
theorem rcrun_bo (b : CP) (o v : Int) (a1 a2 : Option Addr) (c1 c2 n : Nat) (S D : List Int) (w : World) (r1 : Rds Nn w 1 a1 n (ints S)) (r2 : Rds Nn w 1 a2 n (ints D)) (h1 : n = S.length) (h2 : n = D.length) (hn : n ≤ 1000000) : Calls Try.prog 53 #[.agg #[.int .i64 b.kp, .int .i64 b.ki, .int .i64 b.sh, .int .i64 b.lo, .int .i64 b.hi, .int .i64 b.rate, .int .i64 b.ga, .int .i64 b.la, .int .i64 b.de], .int .i64 o, .int .i64 v, .slice a1 n c1, .slice a2 n c2] w (RBoth b o v S D n w) :=
  (rcrun b o v a1 a2 c1 c2 n n S D w r1 r2 h1 h2 (by omega)).mono (rboth_of h1)
theorem exec_load {P : Program} {o : Oper} {ρ : Operand → Value} {t : TypeId} {x : Operand} {p v : Value} {w : World} (ho : o.op = .load t x) (hx : ρ x = p) (h : (Instr.loadAt t p).run P w = .ok v w) : (execOp ρ o).run P w = .ok (.value v) w := by
  unfold execOp
  simp only [ho, hx, Sem.run_bind, h, Result.andThen_ok, Sem.run_pure]
theorem own_addr {w : World} {N n c sz : Nat} {e : TypeId} {A : Option Addr} {xs : List Value} (h : w.ownsRow N e sz (.slice A n c) n xs) (hn : 0 < n) : ∃ g, A = some ⟨g, 0, none⟩ := by
  obtain ⟨g, c', e, _, _⟩ := own_pos h hn
  injection e with e
  exact ⟨g, e⟩
theorem crun_no (b : CP) (o v : Int) (a1 a2 : Option Addr) (c1 c2 n : Nat) (S D : List Int) (w : World) (r1 : Rds Nn w 1 a1 n (ints S)) (r2 : Rds Nn w 1 a2 n (ints D)) (h1 : n = S.length) (h2 : n = D.length) (hn : n ≤ 1000000) : Calls Try.prog 45 #[.agg #[.int .i64 b.kp, .int .i64 b.ki, .int .i64 b.sh, .int .i64 b.lo, .int .i64 b.hi, .int .i64 b.rate, .int .i64 b.ga, .int .i64 b.la, .int .i64 b.de], .int .i64 o, .int .i64 v, .slice a1 n c1, .slice a2 n c2] w (RNo b o v S D w) :=
  (crun b o v a1 a2 c1 c2 n n S D w r1 r2 h1 h2 (by omega)).mono rno_of
theorem rcrun_ok (b : CP) (o v : Int) (a1 a2 : Option Addr) (c1 c2 n : Nat) (S D : List Int) (w : World) (r1 : Rds Nn w 1 a1 n (ints S)) (r2 : Rds Nn w 1 a2 n (ints D)) (h1 : n = S.length) (h2 : n = D.length) (hn : n ≤ 1000000) (he : b.rErr o v S D = 0) : Calls Try.prog 53 #[.agg #[.int .i64 b.kp, .int .i64 b.ki, .int .i64 b.sh, .int .i64 b.lo, .int .i64 b.hi, .int .i64 b.rate, .int .i64 b.ga, .int .i64 b.la, .int .i64 b.de], .int .i64 o, .int .i64 v, .slice a1 n c1, .slice a2 n c2] w (ROk b o v S D n w) :=
  (rcrun b o v a1 a2 c1 c2 n n S D w r1 r2 h1 h2 (by omega)).mono (rok_of he h1)
theorem rcrun_no (b : CP) (o v : Int) (a1 a2 : Option Addr) (c1 c2 n : Nat) (S D : List Int) (w : World) (r1 : Rds Nn w 1 a1 n (ints S)) (r2 : Rds Nn w 1 a2 n (ints D)) (h1 : n = S.length) (h2 : n = D.length) (hn : n ≤ 1000000) : Calls Try.prog 53 #[.agg #[.int .i64 b.kp, .int .i64 b.ki, .int .i64 b.sh, .int .i64 b.lo, .int .i64 b.hi, .int .i64 b.rate, .int .i64 b.ga, .int .i64 b.la, .int .i64 b.de], .int .i64 o, .int .i64 v, .slice a1 n c1, .slice a2 n c2] w (RNo b o v S D w) :=
  (rcrun b o v a1 a2 c1 c2 n n S D w r1 r2 h1 h2 (by omega)).mono rno_of
/-- The value of the k-th sample. -/
theorem val_at {w : World} {S : Nat → Prop} {A : Option Addr} {n : Nat} {rows : List (List Int)} (h : Rds S w 3 A n (ints rows.flatten)) (t : ∀ r ∈ rows, r.length = 3) (hn : n = rows.length) {k : Nat} (hk : k < n) : ∃ p o, ∃ v : Int, A = some ⟨p, o, none⟩ ∧ p < w.heap.size ∧ (col 2 rows)[k]? = some v ∧ ∀ W, Below w.heap.size w W → W.cell? ⟨p, o + k * 3 + 2, none⟩ = some (.int .i64 v) := by
  obtain ⟨p, o, rfl, hp, _, hr⟩ := Rds.plain h (by omega) (by decide)
  have hg := flatten_get 3 (by decide) rows t
  have hkl : k < rows.length := by omega
  have hrr : rows[k]? = some rows[k] := List.getElem?_eq_getElem hkl
  obtain ⟨x, y, v, e⟩ : ∃ x y v, rows[k] = [x, y, v] := by
    match hrk : rows[k], t rows[k] (List.getElem_mem hkl) with
    | [x, y, v], _ => exact ⟨x, y, v, rfl⟩
  have e2 : (ints rows.flatten)[3 * k + 2]? = some (.int .i64 v) := by
    rw [ints_get, hg, show (3 * k + 2) / 3 = k by omega, hrr, e, show (3 * k + 2) % 3 = 2 by omega]; rfl
  refine ⟨p, o, v, rfl, hp, by rw [col_get hrr, e]; rfl, fun W hW => ?_⟩
  rw [← hr _ _ e2, Nat.mul_comm]; exact World.cell?_of_block (hW.block _ hp)
theorem set_mix {xs ys : List Int} {k : Nat} {x : Int} (ha : xs[k]? = some x) (hk : k < ys.length) : (xs.take k ++ ys.drop k).set k x = xs.take (k + 1) ++ ys.drop (k + 1) := by
  have hal : k < xs.length := (List.getElem?_eq_some_iff.1 ha).1
  rw [take_more ha, List.set_append, if_neg (by simp; omega), List.length_take, Nat.min_eq_left (by omega), Nat.sub_self]
  rw [List.drop_eq_getElem_cons hk, List.set_cons_zero]
  simp
theorem mix_len {xs ys : List Int} {k : Nat} (h : xs.length = ys.length) : (xs.take k ++ ys.drop k).length = ys.length := by simp; omega
theorem mix_get {xs ys : List Int} {k : Nat} (h : xs.length = ys.length) (hk : k < ys.length) : (xs.take k ++ ys.drop k)[k]? = ys[k]? := by
  rw [List.getElem?_append_right (by simp; omega), List.length_take, Nat.min_eq_left (by omega), Nat.sub_self, List.getElem?_drop, Nat.add_zero]
theorem row_cell {w : World} {N n c g k : Nat} {l : List Int} {x : Int} (h : w.ownsRow N 3 1 (.slice (some ⟨g, 0, none⟩) n c) n (ints l)) (hx : l[k]? = some x) (hn : n = l.length) : w.cell? ⟨g, k, none⟩ = some (.int .i64 x) := by
  have hk : k < n := by have := (List.getElem?_eq_some_iff.1 hx).1; omega
  rw [h.cellAt k (by omega), ints_get, hx]; rfl
section
variable {b m : CP} {c oB oM vB vM : Int} {S D : List (List Int)}
theorem wErr_chk (h : chkW b m c ≠ 0) : chkW b m c = wErr b m c oB oM vB vM S D := by unfold wErr; rw [if_pos h]
theorem wErr_full (hc : chkW b m c = 0) (h5 : 512 < S.length) : 8 = wErr b m c oB oM vB vM S D := by unfold wErr; rw [if_neg (by omega), if_pos h5]
theorem wErr_form (hc : chkW b m c = 0) (h5 : ¬ 512 < S.length) (hl : D.length ≠ S.length) : 3 = wErr b m c oB oM vB vM S D := by unfold wErr; rw [if_neg (by omega), if_neg h5, if_pos hl]
theorem wErr_b (hc : chkW b m c = 0) (h5 : ¬ 512 < S.length) (hl : D.length = S.length) (hb : b.rErr oB vB (col 0 S) (col 0 D) ≠ 0) : b.rErr oB vB (col 0 S) (col 0 D) = wErr b m c oB oM vB vM S D := by unfold wErr; rw [if_neg (by omega), if_neg h5, if_neg (by omega), if_pos hb]
theorem wErr_m (hc : chkW b m c = 0) (h5 : ¬ 512 < S.length) (hl : D.length = S.length) (hb : b.rErr oB vB (col 0 S) (col 0 D) = 0) : m.rErr oM vM (col 1 S) (col 1 D) = wErr b m c oB oM vB vM S D := by unfold wErr; rw [if_neg (by omega), if_neg h5, if_neg (by omega), if_neg (by omega)]
end
theorem int_set (l : List Int) (k : Nat) (x : Int) : (ints l).set k (.int .i64 x) = ints (l.set k x) := by unfold ints; rw [List.map_set]
set_option maxRecDepth 100000 in
set_option maxHeartbeats 16000000 in
theorem wrun_any (b m : CP) (cp oB oM vB vM : Int) (a1 a2 : Option Addr) (c1 c2 n1 n2 : Nat) (S D : List (List Int)) (w : World) (r1 : Rds Nn w 2 a1 n1 (ints S.flatten)) (r2 : Rds Nn w 2 a2 n2 (ints D.flatten)) (t1 : ∀ r ∈ S, r.length = 2) (t2 : ∀ r ∈ D, r.length = 2) (h1 : n1 = S.length) (h2 : n2 = D.length) (hl1 : n1 ≤ 1000000) (hl2 : n2 ≤ 1000000) : Calls Try.prog 31 #[.agg #[.int .i64 b.kp, .int .i64 b.ki, .int .i64 b.sh, .int .i64 b.lo, .int .i64 b.hi, .int .i64 b.rate, .int .i64 b.ga, .int .i64 b.la, .int .i64 b.de, .int .i64 m.kp, .int .i64 m.ki, .int .i64 m.sh, .int .i64 m.lo, .int .i64 m.hi, .int .i64 m.rate, .int .i64 m.ga, .int .i64 m.la, .int .i64 m.de, .int .i64 cp], .agg #[.int .i64 oB, .int .i64 oM, .int .i64 vB, .int .i64 vM], .slice a1 n1 c1, .slice a2 n2 c2] w (WPost b m cp oB oM vB vM S D w) := by
  have R1 := hid r1
  have R2 := hid r2
  have TT1 := hid t1
  have TT2 := hid t2
  have N1 := hid h1
  have N2 := hid h2
  clear r1 r2 t1 t2 h1 h2
  by_cases hc : chkW b m cp = 0
  rotate_left
  · have R : Hid (chkW b m cp = wErr b m cp oB oM vB vM S D) := hid (wErr_chk hc)
    have RN := hid hc
    have hz : (chkW b m cp != 0) = true := by simpa using hc
    clear hc
    go_enter Try.func31, Try.ntmps31
    go_wp2_with (refine wpList_load_blk (t := 29) (Blk.alloc (Blk.at_new w rfl) _) Try.underlying29 rfl (by kernel_rfl) rfl rfl rfl ?_)
    refine (wcheck_any b m cp _).mono ?_
    rintro e w1 ⟨rfl, hb⟩
    have W1 : Hid (Blk w1 (w.heap.size) 29 #[.int .i64 b.kp, .int .i64 b.ki, .int .i64 b.sh, .int .i64 b.lo, .int .i64 b.hi, .int .i64 b.rate, .int .i64 b.ga, .int .i64 b.la, .int .i64 b.de, .int .i64 m.kp, .int .i64 m.ki, .int .i64 m.sh, .int .i64 m.lo, .int .i64 m.hi, .int .i64 m.rate, .int .i64 m.ga, .int .i64 m.la, .int .i64 m.de, .int .i64 cp]) := hid (Blk.below (Blk.alloc (Blk.at_new _ (by simp)) _) hb (by simp <;> omega))
    have T1 : Hid (Blk w1 (w.heap.size + 1) 63 #[.int .i64 oB, .int .i64 oM, .int .i64 vB, .int .i64 vM]) := hid (Blk.below (Blk.at_new _ (by simp)) hb (by simp <;> omega))
    have B1 : Hid (Below w.heap.size w w1) := hid (Below.trans (((Below.refl _ _).alloc (by simp <;> omega) _).alloc (by simp <;> omega) _) (hb.mono (by simp <;> omega)))
    clear hb
    have cW_0 : ∀ (i : Nat), w1.cell? ⟨w.heap.size, i, none⟩ = (#[.int .i64 b.kp, .int .i64 b.ki, .int .i64 b.sh, .int .i64 b.lo, .int .i64 b.hi, .int .i64 b.rate, .int .i64 b.ga, .int .i64 b.la, .int .i64 b.de, .int .i64 m.kp, .int .i64 m.ki, .int .i64 m.sh, .int .i64 m.lo, .int .i64 m.hi, .int .i64 m.rate, .int .i64 m.ga, .int .i64 m.la, .int .i64 m.de, .int .i64 cp] : Array Value)[i]? := Blk.cell W1.out
    have cW_1 : ∀ (o0 : Obj) (i : Nat), (w1.alloc o0).cell? ⟨w.heap.size, i, none⟩ = (#[.int .i64 b.kp, .int .i64 b.ki, .int .i64 b.sh, .int .i64 b.lo, .int .i64 b.hi, .int .i64 b.rate, .int .i64 b.ga, .int .i64 b.la, .int .i64 b.de, .int .i64 m.kp, .int .i64 m.ki, .int .i64 m.sh, .int .i64 m.lo, .int .i64 m.hi, .int .i64 m.rate, .int .i64 m.ga, .int .i64 m.la, .int .i64 m.de, .int .i64 cp] : Array Value)[i]? := fun _ => Blk.cell (Blk.alloc W1.out _)
    have cT_0 : ∀ (i : Nat), w1.cell? ⟨w.heap.size + 1, i, none⟩ = (#[.int .i64 oB, .int .i64 oM, .int .i64 vB, .int .i64 vM] : Array Value)[i]? := Blk.cell T1.out
    have cT_1 : ∀ (o0 : Obj) (i : Nat), (w1.alloc o0).cell? ⟨w.heap.size + 1, i, none⟩ = (#[.int .i64 oB, .int .i64 oM, .int .i64 vB, .int .i64 vM] : Array Value)[i]? := fun _ => Blk.cell (Blk.alloc T1.out _)
    go_wp2
    go_ret2
    exact wr_bad R.out (by first | decide | exact RN.out) B1.out
  have HC := hid hc
  by_cases h5 : 512 < n1
  · have R : Hid (8 = wErr b m cp oB oM vB vM S D) := hid (wErr_full hc (by rw [← N1.out]; exact h5))
    clear hc
    go_enter Try.func31, Try.ntmps31
    go_wp2_with (refine wpList_load_blk (t := 29) (Blk.alloc (Blk.at_new w rfl) _) Try.underlying29 rfl (by kernel_rfl) rfl rfl rfl ?_)
    refine (wcheck_any b m cp _).mono ?_
    rintro e w1 ⟨rfl, hb⟩
    have W1 : Hid (Blk w1 (w.heap.size) 29 #[.int .i64 b.kp, .int .i64 b.ki, .int .i64 b.sh, .int .i64 b.lo, .int .i64 b.hi, .int .i64 b.rate, .int .i64 b.ga, .int .i64 b.la, .int .i64 b.de, .int .i64 m.kp, .int .i64 m.ki, .int .i64 m.sh, .int .i64 m.lo, .int .i64 m.hi, .int .i64 m.rate, .int .i64 m.ga, .int .i64 m.la, .int .i64 m.de, .int .i64 cp]) := hid (Blk.below (Blk.alloc (Blk.at_new _ (by simp)) _) hb (by simp <;> omega))
    have T1 : Hid (Blk w1 (w.heap.size + 1) 63 #[.int .i64 oB, .int .i64 oM, .int .i64 vB, .int .i64 vM]) := hid (Blk.below (Blk.at_new _ (by simp)) hb (by simp <;> omega))
    have B1 : Hid (Below w.heap.size w w1) := hid (Below.trans (((Below.refl _ _).alloc (by simp <;> omega) _).alloc (by simp <;> omega) _) (hb.mono (by simp <;> omega)))
    clear hb
    have cW_0 : ∀ (i : Nat), w1.cell? ⟨w.heap.size, i, none⟩ = (#[.int .i64 b.kp, .int .i64 b.ki, .int .i64 b.sh, .int .i64 b.lo, .int .i64 b.hi, .int .i64 b.rate, .int .i64 b.ga, .int .i64 b.la, .int .i64 b.de, .int .i64 m.kp, .int .i64 m.ki, .int .i64 m.sh, .int .i64 m.lo, .int .i64 m.hi, .int .i64 m.rate, .int .i64 m.ga, .int .i64 m.la, .int .i64 m.de, .int .i64 cp] : Array Value)[i]? := Blk.cell W1.out
    have cW_1 : ∀ (o0 : Obj) (i : Nat), (w1.alloc o0).cell? ⟨w.heap.size, i, none⟩ = (#[.int .i64 b.kp, .int .i64 b.ki, .int .i64 b.sh, .int .i64 b.lo, .int .i64 b.hi, .int .i64 b.rate, .int .i64 b.ga, .int .i64 b.la, .int .i64 b.de, .int .i64 m.kp, .int .i64 m.ki, .int .i64 m.sh, .int .i64 m.lo, .int .i64 m.hi, .int .i64 m.rate, .int .i64 m.ga, .int .i64 m.la, .int .i64 m.de, .int .i64 cp] : Array Value)[i]? := fun _ => Blk.cell (Blk.alloc W1.out _)
    have cT_0 : ∀ (i : Nat), w1.cell? ⟨w.heap.size + 1, i, none⟩ = (#[.int .i64 oB, .int .i64 oM, .int .i64 vB, .int .i64 vM] : Array Value)[i]? := Blk.cell T1.out
    have cT_1 : ∀ (o0 : Obj) (i : Nat), (w1.alloc o0).cell? ⟨w.heap.size + 1, i, none⟩ = (#[.int .i64 oB, .int .i64 oM, .int .i64 vB, .int .i64 vM] : Array Value)[i]? := fun _ => Blk.cell (Blk.alloc T1.out _)
    rw [HC.out]
    go_wp2
    go_ret2
    exact wr_bad R.out (by first | decide | exact RN.out) B1.out
  by_cases hl : n2 = n1
  rotate_left
  · have R : Hid (3 = wErr b m cp oB oM vB vM S D) := hid (wErr_form hc (by rw [← N1.out]; exact h5) (by rw [← N1.out, ← N2.out]; exact hl))
    have hz : ((n2 : Int) != (n1 : Int)) = true := by simp; omega
    clear hc
    go_enter Try.func31, Try.ntmps31
    go_wp2_with (refine wpList_load_blk (t := 29) (Blk.alloc (Blk.at_new w rfl) _) Try.underlying29 rfl (by kernel_rfl) rfl rfl rfl ?_)
    refine (wcheck_any b m cp _).mono ?_
    rintro e w1 ⟨rfl, hb⟩
    have W1 : Hid (Blk w1 (w.heap.size) 29 #[.int .i64 b.kp, .int .i64 b.ki, .int .i64 b.sh, .int .i64 b.lo, .int .i64 b.hi, .int .i64 b.rate, .int .i64 b.ga, .int .i64 b.la, .int .i64 b.de, .int .i64 m.kp, .int .i64 m.ki, .int .i64 m.sh, .int .i64 m.lo, .int .i64 m.hi, .int .i64 m.rate, .int .i64 m.ga, .int .i64 m.la, .int .i64 m.de, .int .i64 cp]) := hid (Blk.below (Blk.alloc (Blk.at_new _ (by simp)) _) hb (by simp <;> omega))
    have T1 : Hid (Blk w1 (w.heap.size + 1) 63 #[.int .i64 oB, .int .i64 oM, .int .i64 vB, .int .i64 vM]) := hid (Blk.below (Blk.at_new _ (by simp)) hb (by simp <;> omega))
    have B1 : Hid (Below w.heap.size w w1) := hid (Below.trans (((Below.refl _ _).alloc (by simp <;> omega) _).alloc (by simp <;> omega) _) (hb.mono (by simp <;> omega)))
    clear hb
    have cW_0 : ∀ (i : Nat), w1.cell? ⟨w.heap.size, i, none⟩ = (#[.int .i64 b.kp, .int .i64 b.ki, .int .i64 b.sh, .int .i64 b.lo, .int .i64 b.hi, .int .i64 b.rate, .int .i64 b.ga, .int .i64 b.la, .int .i64 b.de, .int .i64 m.kp, .int .i64 m.ki, .int .i64 m.sh, .int .i64 m.lo, .int .i64 m.hi, .int .i64 m.rate, .int .i64 m.ga, .int .i64 m.la, .int .i64 m.de, .int .i64 cp] : Array Value)[i]? := Blk.cell W1.out
    have cW_1 : ∀ (o0 : Obj) (i : Nat), (w1.alloc o0).cell? ⟨w.heap.size, i, none⟩ = (#[.int .i64 b.kp, .int .i64 b.ki, .int .i64 b.sh, .int .i64 b.lo, .int .i64 b.hi, .int .i64 b.rate, .int .i64 b.ga, .int .i64 b.la, .int .i64 b.de, .int .i64 m.kp, .int .i64 m.ki, .int .i64 m.sh, .int .i64 m.lo, .int .i64 m.hi, .int .i64 m.rate, .int .i64 m.ga, .int .i64 m.la, .int .i64 m.de, .int .i64 cp] : Array Value)[i]? := fun _ => Blk.cell (Blk.alloc W1.out _)
    have cT_0 : ∀ (i : Nat), w1.cell? ⟨w.heap.size + 1, i, none⟩ = (#[.int .i64 oB, .int .i64 oM, .int .i64 vB, .int .i64 vM] : Array Value)[i]? := Blk.cell T1.out
    have cT_1 : ∀ (o0 : Obj) (i : Nat), (w1.alloc o0).cell? ⟨w.heap.size + 1, i, none⟩ = (#[.int .i64 oB, .int .i64 oM, .int .i64 vB, .int .i64 vM] : Array Value)[i]? := fun _ => Blk.cell (Blk.alloc T1.out _)
    rw [HC.out]
    go_wp2
    go_ret2
    exact wr_bad R.out (by first | decide | exact RN.out) B1.out
  subst hl
  have WC := hid (chkW_ok hc)
  have H5 : Hid (¬ 512 < S.length) := hid (by rw [← N1.out]; exact h5)
  have HL : Hid (D.length = S.length) := hid (by rw [← N1.out, ← N2.out])
  clear hc
  go_enter Try.func31, Try.ntmps31
  go_wp2_with (refine wpList_load_blk (t := 29) (Blk.alloc (Blk.at_new w rfl) _) Try.underlying29 rfl (by kernel_rfl) rfl rfl rfl ?_)
  refine (wcheck_any b m cp _).mono ?_
  rintro e w1 ⟨rfl, hb⟩
  have W1 : Hid (Blk w1 (w.heap.size) 29 #[.int .i64 b.kp, .int .i64 b.ki, .int .i64 b.sh, .int .i64 b.lo, .int .i64 b.hi, .int .i64 b.rate, .int .i64 b.ga, .int .i64 b.la, .int .i64 b.de, .int .i64 m.kp, .int .i64 m.ki, .int .i64 m.sh, .int .i64 m.lo, .int .i64 m.hi, .int .i64 m.rate, .int .i64 m.ga, .int .i64 m.la, .int .i64 m.de, .int .i64 cp]) := hid (Blk.below (Blk.alloc (Blk.at_new _ (by simp)) _) hb (by simp <;> omega))
  have T1 : Hid (Blk w1 (w.heap.size + 1) 63 #[.int .i64 oB, .int .i64 oM, .int .i64 vB, .int .i64 vM]) := hid (Blk.below (Blk.at_new _ (by simp)) hb (by simp <;> omega))
  have B1 : Hid (Below w.heap.size w w1) := hid (Below.trans (((Below.refl _ _).alloc (by simp <;> omega) _).alloc (by simp <;> omega) _) (hb.mono (by simp <;> omega)))
  clear hb
  have cW_0 : ∀ (i : Nat), w1.cell? ⟨w.heap.size, i, none⟩ = (#[.int .i64 b.kp, .int .i64 b.ki, .int .i64 b.sh, .int .i64 b.lo, .int .i64 b.hi, .int .i64 b.rate, .int .i64 b.ga, .int .i64 b.la, .int .i64 b.de, .int .i64 m.kp, .int .i64 m.ki, .int .i64 m.sh, .int .i64 m.lo, .int .i64 m.hi, .int .i64 m.rate, .int .i64 m.ga, .int .i64 m.la, .int .i64 m.de, .int .i64 cp] : Array Value)[i]? := Blk.cell W1.out
  have cW_1 : ∀ (o0 : Obj) (i : Nat), (w1.alloc o0).cell? ⟨w.heap.size, i, none⟩ = (#[.int .i64 b.kp, .int .i64 b.ki, .int .i64 b.sh, .int .i64 b.lo, .int .i64 b.hi, .int .i64 b.rate, .int .i64 b.ga, .int .i64 b.la, .int .i64 b.de, .int .i64 m.kp, .int .i64 m.ki, .int .i64 m.sh, .int .i64 m.lo, .int .i64 m.hi, .int .i64 m.rate, .int .i64 m.ga, .int .i64 m.la, .int .i64 m.de, .int .i64 cp] : Array Value)[i]? := fun _ => Blk.cell (Blk.alloc W1.out _)
  have cT_0 : ∀ (i : Nat), w1.cell? ⟨w.heap.size + 1, i, none⟩ = (#[.int .i64 oB, .int .i64 oM, .int .i64 vB, .int .i64 vM] : Array Value)[i]? := Blk.cell T1.out
  have cT_1 : ∀ (o0 : Obj) (i : Nat), (w1.alloc o0).cell? ⟨w.heap.size + 1, i, none⟩ = (#[.int .i64 oB, .int .i64 oM, .int .i64 vB, .int .i64 vM] : Array Value)[i]? := fun _ => Blk.cell (Blk.alloc T1.out _)
  rw [HC.out]
  have N0 := hid (rfl : w1.heap.size = w1.heap.size)
  go_wp2
  go_loopw [12, 13, 14, 15, 41] (fun u1 u2 u3 u4 i wr => ∃ k : Nat, k ≤ n2 ∧ i = .int .i64 k ∧ Rws wr w1.heap.size [(u1, (col 0 S).take k), (u2, (col 1 S).take k), (u3, (col 0 D).take k), (u4, (col 1 D).take k)] ∧ Below w1.heap.size w1 wr) (fun _ _ _ _ i _ => n2 - (intOf i).toNat)
  case atStart => exact ⟨0, Nat.zero_le _, rfl, ⟨by intro p hp; simp at hp; rcases hp with rfl | rfl | rfl | rfl <;> exact own_nil _ _ _ _, by simp [Dj, Value.ownBlock]⟩, Below.refl _ _⟩
  case round =>
    obtain ⟨k, hk, rfl, hrw, hbel⟩ := hrel
    have RW := hid hrw
    have BB := hid hbel
    have SZ := hid hbel.size
    clear hrw hbel
    by_cases hlt : k < n2
    · obtain ⟨p, o, s, v, rfl, hp, he, hcell⟩ := cells_at R1.out TT1.out N1.out hlt
      have EE : Hid (∀ W : World, Below w1.heap.size w1 W → W.cell? ⟨p, o + k * 2, none⟩ = some (.int .i64 s) ∧ W.cell? ⟨p, o + k * 2 + 1, none⟩ = some (.int .i64 v)) := hid (fun W hW => hcell W (B1.out.trans (hW.mono B1.out.size)))
      have X1 : Hid ((col 0 S).take (k + 1) = (col 0 S).take k ++ [s]) := hid (take_more (col_get he))
      have X2 : Hid ((col 1 S).take (k + 1) = (col 1 S).take k ++ [v]) := hid (take_more (col_get he))
      clear hcell he hp
      have h1 := RW.out.get (p := (u12, (col 0 S).take k)) (by simp)
      have L1 : Hid (k = ((col 0 S).take k).length) := hid (by rw [List.length_take, col_len, ← N1.out]; omega)
      rw [← L1.out] at h1
      obtain ⟨A1, q1, rfl, _, _⟩ := own_form h1
      have h2 := RW.out.get (p := (u13, (col 1 S).take k)) (by simp)
      have L2 : Hid (k = ((col 1 S).take k).length) := hid (by rw [List.length_take, col_len, ← N1.out]; omega)
      rw [← L2.out] at h2
      obtain ⟨A2, q2, rfl, _, _⟩ := own_form h2
      have O1 : Hid (wr.ownsRow w1.heap.size 3 1 (.slice A1 k q1) k (ints ((col 0 S).take k))) := hid h1
      have O2 : Hid (wr.ownsRow w1.heap.size 3 1 (.slice A2 k q2) k (ints ((col 1 S).take k))) := hid h2
      clear h1 h2
      go_upto_region 13 with fail
      go_cut [12, 13] (fun v1 v2 wx => Rws wx w1.heap.size [(v1, (col 0 S).take (k + 1)), (v2, (col 1 S).take (k + 1)), (u14, (col 0 D).take k), (u15, (col 1 D).take k)] ∧ Below w1.heap.size w1 wx)
      case first =>
        go_region_held3 (fun w' => w'.cell? ⟨p, o + k * 2, none⟩ = some (.int .i64 s) ∧ w'.cell? ⟨p, o + k * 2 + 1, none⟩ = some (.int .i64 v)) (exact EE.out _ (by repeat (first | with_reducible exact BB.out | with_reducible exact B6.out | with_reducible exact B7.out | with_reducible refine Below.drew ?_ | with_reducible refine Below.alloc ?_ (by first | exact Nat.le_trans BB.out.size (by simp) | exact Nat.le_trans B6.out.size (by simp)) _))) (first
          | (refine step_app (n := k) (v := .slice A1 k q1) (xs := ints ((col 0 S).take k)) (m := 1) (S := Nn) (news := [.int .i64 s]) (s := .tmp 44) (x := .tmp 50) info3 Try.underlying30 (by kernel_rfl) (by omega) (by omega) (own_keep (own_base_le O1.out (Nat.zero_le _)) (by repeat (first | with_reducible exact Chg.refl _ _ | with_reducible refine Chg.drew ?_ | with_reducible refine Chg.alloc ?_ _)) (fun _ _ => id)) (by repeat (first | with_reducible exact Rds.oneAt _ _ _ _ (by simp) | with_reducible refine Rds.drewK ?_ | with_reducible refine Rds.allocK ?_)) (by intro u hu; simp at hu; subst hu; rfl) (by omega) rfl rfl rfl rfl ?_; intro y6 w6 hown hchg hnew; obtain ⟨hr6, hb6⟩ := Rws.step (X := []) RW.out BB.out BB.out.size (by repeat (first | with_reducible exact Below.refl _ _ | with_reducible refine Below.drew ?_ | with_reducible refine Below.alloc ?_ (by simp) _)) L1.out hown hchg hnew; rw [← X1.out] at hr6; have R6 := hid hr6; have B6 := hid hb6; have O62 : Hid (w6.ownsRow w1.heap.size 3 1 (.slice A2 k q2) k (ints ((col 1 S).take k))) := hid (by have := hr6.get (p := (.slice A2 k q2, (col 1 S).take k)) (by simp); rw [← L2.out] at this; exact this); have HC1 := hid hchg; have s6 := EE.out _ hb6; clear hown hchg hnew hr6 hb6)
          | (refine step_app (n := k) (v := .slice A2 k q2) (xs := ints ((col 1 S).take k)) (m := 1) (S := Nn) (news := [.int .i64 v]) (s := .tmp 52) (x := .tmp 58) info3 Try.underlying30 (by kernel_rfl) (by omega) (by omega) (own_keep (own_base_le O62.out (Nat.zero_le _)) (by repeat (first | with_reducible exact Chg.refl _ _ | with_reducible refine Chg.drew ?_ | with_reducible refine Chg.alloc ?_ _)) (fun _ _ => id)) (by first | with_reducible exact Rds.oneAt _ _ _ _ (by simp) | with_reducible exact Rds.past (by repeat (first | with_reducible exact Rds.oneAt _ _ _ _ (by simp) | with_reducible refine Rds.drewK ?_ | with_reducible refine Rds.allocK ?_)) HC1.out (fun g hg => by have := (own_blk O1.out g hg).2; omega)) (by intro u hu; simp at hu; subst hu; rfl) (by omega) rfl rfl rfl rfl ?_; intro y7 w7 hown hchg hnew; obtain ⟨hr7, hb7⟩ := Rws.step (X := [_]) R6.out B6.out B6.out.size (by repeat (first | with_reducible exact Below.refl _ _ | with_reducible refine Below.drew ?_ | with_reducible refine Below.alloc ?_ (by simp) _)) L2.out hown hchg hnew; rw [← X2.out] at hr7; have R7 := hid hr7; have B7 := hid hb7; have s7 := EE.out _ hb7; clear hown hchg hnew hr7 hb7))
        all_goals go_wp2_with fail
        all_goals go_meet
        all_goals exact ⟨R7.out, B7.out⟩
      case rest =>
        obtain ⟨hr2, hb2⟩ := hcut
        have RC := hid hr2
        have BC := hid hb2
        clear hr2 hb2 EE
        obtain ⟨p, o, s, v, rfl, hp, he, hcell⟩ := cells_at R2.out TT2.out N2.out hlt
        have EE : Hid (∀ W : World, Below w1.heap.size w1 W → W.cell? ⟨p, o + k * 2, none⟩ = some (.int .i64 s) ∧ W.cell? ⟨p, o + k * 2 + 1, none⟩ = some (.int .i64 v)) := hid (fun W hW => hcell W (B1.out.trans (hW.mono B1.out.size)))
        have X3 : Hid ((col 0 D).take (k + 1) = (col 0 D).take k ++ [s]) := hid (take_more (col_get he))
        have X4 : Hid ((col 1 D).take (k + 1) = (col 1 D).take k ++ [v]) := hid (take_more (col_get he))
        clear hcell he hp
        have h3 := RC.out.get (p := (u14, (col 0 D).take k)) (by simp)
        have L3 : Hid (k = ((col 0 D).take k).length) := hid (by rw [List.length_take, col_len, ← N2.out]; omega)
        rw [← L3.out] at h3
        obtain ⟨A3, q3, rfl, _, _⟩ := own_form h3
        have h4 := RC.out.get (p := (u15, (col 1 D).take k)) (by simp)
        have L4 : Hid (k = ((col 1 D).take k).length) := hid (by rw [List.length_take, col_len, ← N2.out]; omega)
        rw [← L4.out] at h4
        obtain ⟨A4, q4, rfl, _, _⟩ := own_form h4
        have O3 : Hid (wc.ownsRow w1.heap.size 3 1 (.slice A3 k q3) k (ints ((col 0 D).take k))) := hid h3
        have O4 : Hid (wc.ownsRow w1.heap.size 3 1 (.slice A4 k q4) k (ints ((col 1 D).take k))) := hid h4
        clear h3 h4
        go_upto_region 14 with fail
        go_region_held3 (fun w' => w'.cell? ⟨p, o + k * 2, none⟩ = some (.int .i64 s) ∧ w'.cell? ⟨p, o + k * 2 + 1, none⟩ = some (.int .i64 v)) (exact EE.out _ (by repeat (first | with_reducible exact BC.out | with_reducible exact B6.out | with_reducible exact B7.out | with_reducible refine Below.drew ?_ | with_reducible refine Below.alloc ?_ (by first | exact Nat.le_trans BC.out.size (by simp) | exact Nat.le_trans B6.out.size (by simp)) _))) (first
          | (refine step_app (n := k) (v := .slice A3 k q3) (xs := ints ((col 0 D).take k)) (m := 1) (S := Nn) (news := [.int .i64 s]) (s := .tmp 60) (x := .tmp 66) info3 Try.underlying30 (by kernel_rfl) (by omega) (by omega) (own_keep (own_base_le O3.out (Nat.zero_le _)) (by repeat (first | with_reducible exact Chg.refl _ _ | with_reducible refine Chg.drew ?_ | with_reducible refine Chg.alloc ?_ _)) (fun _ _ => id)) (by repeat (first | with_reducible exact Rds.oneAt _ _ _ _ (by simp) | with_reducible refine Rds.drewK ?_ | with_reducible refine Rds.allocK ?_)) (by intro u hu; simp at hu; subst hu; rfl) (by omega) rfl rfl rfl rfl ?_; intro y6 w6 hown hchg hnew; obtain ⟨hr6, hb6⟩ := Rws.step (X := [_, _]) RC.out BC.out BC.out.size (by repeat (first | with_reducible exact Below.refl _ _ | with_reducible refine Below.drew ?_ | with_reducible refine Below.alloc ?_ (by simp) _)) L3.out hown hchg hnew; rw [← X3.out] at hr6; have R6 := hid hr6; have B6 := hid hb6; have O62 : Hid (w6.ownsRow w1.heap.size 3 1 (.slice A4 k q4) k (ints ((col 1 D).take k))) := hid (by have := hr6.get (p := (.slice A4 k q4, (col 1 D).take k)) (by simp); rw [← L4.out] at this; exact this); have HC1 := hid hchg; have s6 := EE.out _ hb6; clear hown hchg hnew hr6 hb6)
          | (refine step_app (n := k) (v := .slice A4 k q4) (xs := ints ((col 1 D).take k)) (m := 1) (S := Nn) (news := [.int .i64 v]) (s := .tmp 68) (x := .tmp 74) info3 Try.underlying30 (by kernel_rfl) (by omega) (by omega) (own_keep (own_base_le O62.out (Nat.zero_le _)) (by repeat (first | with_reducible exact Chg.refl _ _ | with_reducible refine Chg.drew ?_ | with_reducible refine Chg.alloc ?_ _)) (fun _ _ => id)) (by first | with_reducible exact Rds.oneAt _ _ _ _ (by simp) | with_reducible exact Rds.past (by repeat (first | with_reducible exact Rds.oneAt _ _ _ _ (by simp) | with_reducible refine Rds.drewK ?_ | with_reducible refine Rds.allocK ?_)) HC1.out (fun g hg => by have := (own_blk O3.out g hg).2; omega)) (by intro u hu; simp at hu; subst hu; rfl) (by omega) rfl rfl rfl rfl ?_; intro y7 w7 hown hchg hnew; obtain ⟨hr7, hb7⟩ := Rws.step (X := [_, _, _]) R6.out B6.out B6.out.size (by repeat (first | with_reducible exact Below.refl _ _ | with_reducible refine Below.drew ?_ | with_reducible refine Below.alloc ?_ (by simp) _)) L4.out hown hchg hnew; rw [← X4.out] at hr7; have R7 := hid hr7; have B7 := hid hb7; have s7 := EE.out _ hb7; clear hown hchg hnew hr7 hb7))
        all_goals
          go_wp2_with fail
          go_roundw
          case rel => exact ⟨k + 1, by omega, by go_num, R7.out, B7.out⟩
          case measure => simp [intOf]; omega
    · obtain rfl : k = n2 := by omega
      obtain ⟨wq, rfl⟩ : ∃ wq, wq = wr := ⟨_, rfl⟩
      have RF : Hid (Rws wq w1.heap.size [(u12, col 0 S), (u13, col 1 S), (u14, col 0 D), (u15, col 1 D)]) := hid (by
        have := RW.out
        rw [List.take_of_length_le (by rw [col_len, ← N1.out]; omega), List.take_of_length_le (by rw [col_len, ← N1.out]; omega), List.take_of_length_le (by rw [col_len, ← N2.out]; omega), List.take_of_length_le (by rw [col_len, ← N2.out]; omega)] at this
        exact this)
      have h1 := RF.out.get (p := (u12, col 0 S)) (by simp)
      have L1 : Hid (k = (col 0 S).length) := hid (by rw [col_len]; exact N1.out)
      rw [← L1.out] at h1
      obtain ⟨A1, q1, rfl, _, _⟩ := own_form h1
      have h2 := RF.out.get (p := (u13, col 1 S)) (by simp)
      have L2 : Hid (k = (col 1 S).length) := hid (by rw [col_len]; exact N1.out)
      rw [← L2.out] at h2
      obtain ⟨A2, q2, rfl, _, _⟩ := own_form h2
      have h3 := RF.out.get (p := (u14, col 0 D)) (by simp)
      have L3 : Hid (k = (col 0 D).length) := hid (by rw [col_len]; exact N2.out)
      rw [← L3.out] at h3
      obtain ⟨A3, q3, rfl, _, _⟩ := own_form h3
      have h4 := RF.out.get (p := (u15, col 1 D)) (by simp)
      have L4 : Hid (k = (col 1 D).length) := hid (by rw [col_len]; exact N2.out)
      rw [← L4.out] at h4
      obtain ⟨A4, q4, rfl, _, _⟩ := own_form h4
      have O1 : Hid (wq.ownsRow w1.heap.size 3 1 (.slice A1 k q1) k (ints (col 0 S))) := hid h1
      have D1 : Hid (Rds Nn wq 1 A1 k (ints (col 0 S))) := hid (Rds.own h1 (fun _ _ => id))
      have O2 : Hid (wq.ownsRow w1.heap.size 3 1 (.slice A2 k q2) k (ints (col 1 S))) := hid h2
      have D2 : Hid (Rds Nn wq 1 A2 k (ints (col 1 S))) := hid (Rds.own h2 (fun _ _ => id))
      have O3 : Hid (wq.ownsRow w1.heap.size 3 1 (.slice A3 k q3) k (ints (col 0 D))) := hid h3
      have D3 : Hid (Rds Nn wq 1 A3 k (ints (col 0 D))) := hid (Rds.own h3 (fun _ _ => id))
      have O4 : Hid (wq.ownsRow w1.heap.size 3 1 (.slice A4 k q4) k (ints (col 1 D))) := hid h4
      have D4 : Hid (Rds Nn wq 1 A4 k (ints (col 1 D))) := hid (Rds.own h4 (fun _ _ => id))
      clear h1 h2 h3 h4
      have WR := hid (W1.out.below BB.out W1.out.lt)
      have ZR := hid (T1.out.below BB.out T1.out.lt)
      have BW := hid (B1.out.trans (BB.out.mono B1.out.size))
      have cW := WR.out.cell
      have cZ := ZR.out.cell
      go_wp2_with fail
      refine (crun_bo b oB vB _ _ _ _ k (col 0 S) (col 0 D) _ D1.out D3.out L1.out L3.out (by omega)).mono ?_
      rintro e w2 ⟨ub, rfl, hb, hgo⟩
      have W2 := hid (WR.out.below hb WR.out.lt)
      have Z2 := hid (ZR.out.below hb ZR.out.lt)
      have B2 := hid (BW.out.trans (hb.mono BW.out.size))
      have BN2 := hid (BB.out.trans (hb.mono BB.out.size))
      have R2' := hid (RF.out.below hb)
      have D22 := hid (D2.out.below hb)
      have D42 := hid (D4.out.below hb)
      have HB2 := hid hb
      have GO := hid hgo
      clear hb hgo cW cZ
      by_cases hbe : b.rErr oB vB (col 0 S) (col 0 D) = 0
      rotate_left
      · have R : Hid (b.rErr oB vB (col 0 S) (col 0 D) = wErr b m cp oB oM vB vM S D) := hid (wErr_b HC.out H5.out HL.out hbe)
        have RN := hid hbe
        have hz : (b.rErr oB vB (col 0 S) (col 0 D) != 0) = true := by simpa using hbe
        clear hbe
        go_wp2
        go_ret2
        exact wr_bad R.out RN.out B2.out
      obtain ⟨AB, qb, rfl, hob⟩ := GO.out hbe
      have OB2 := hid hob
      have HBE := hid hbe
      clear hob GO
      rw [hbe]
      clear hbe
      have cW := W2.out.cell
      have cZ := Z2.out.cell
      go_wp2_with fail
      refine (crun_bo m oM vM _ _ _ _ k (col 1 S) (col 1 D) _ D22.out D42.out L2.out L4.out (by omega)).mono ?_
      rintro e w3 ⟨um, rfl, hb, hgo⟩
      have W3 := hid (W2.out.below hb W2.out.lt)
      have Z3 := hid (Z2.out.below hb Z2.out.lt)
      have B3 := hid (B2.out.trans (hb.mono B2.out.size))
      have BN3 := hid (BN2.out.trans (hb.mono BN2.out.size))
      have R3 := hid (R2'.out.below hb)
      have HB3 := hid (HB2.out.trans (hb.mono HB2.out.size))
      have OB3 := hid (own_keep OB2.out (Chg.of_below (S := fun j => w2.heap.size ≤ j) hb (fun _ _ h => h)) (fun g hg e => by have := (own_blk OB2.out g hg).2; omega))
      clear hb hgo cW cZ R2' D22 D42
      by_cases hme : m.rErr oM vM (col 1 S) (col 1 D) = 0
      rotate_left
      · have R : Hid (m.rErr oM vM (col 1 S) (col 1 D) = wErr b m cp oB oM vB vM S D) := hid (wErr_m HC.out H5.out HL.out HBE.out)
        have RN := hid hme
        have hz : (m.rErr oM vM (col 1 S) (col 1 D) != 0) = true := by simpa using hme
        clear hme
        go_wp2
        go_ret2
        exact wr_bad R.out RN.out B3.out
      have WE : Hid (wErr b m cp oB oM vB vM S D = 0) := hid (by rw [← wErr_m HC.out H5.out HL.out HBE.out]; exact hme)
      have HME := hid hme
      rw [hme]
      clear hme
      have ML : Hid (k = (mDist b cp oB vB S D).length) := hid (by rw [mDist_len WE.out]; exact N1.out)
      have VL : Hid (k = (b.rows oB vB (col 0 S) (col 0 D)).length) := hid (by rw [CP.rows_len HBE.out]; exact L1.out)
      go_wp2
      go_loopw [112] (fun i wz => ∃ k2 : Nat, k2 ≤ k ∧ i = .int .i64 k2 ∧ Rws wz w1.heap.size [(.slice A1 k q1, col 0 S), (.slice A2 k q2, col 1 S), (.slice A3 k q3, col 0 D), (.slice A4 k q4, ((mDist b cp oB vB S D).take k2 ++ (col 1 D).drop k2))] ∧ wz.ownsRow wq.heap.size 94 3 (.slice AB k qb) k (ints (b.rows oB vB (col 0 S) (col 0 D)).flatten) ∧ Below w1.heap.size w1 wz ∧ wq.heap.size ≤ wz.heap.size) (fun i _ => k - (intOf i).toNat)
      case atStart => exact ⟨0, Nat.zero_le _, rfl, R3.out, OB3.out, BN3.out, HB3.out.size⟩
      case round =>
        obtain ⟨k2, hk2, rfl, hrw, hob, hbel, hsz⟩ := hrel
        have RZ := hid hrw
        have OB := hid hob
        have BZ := hid hbel
        have SZ2 := hid hsz
        clear hrw hob hbel hsz
        by_cases hlt2 : k2 < k
        · obtain ⟨g1, rfl⟩ := own_addr O1.out (by omega)
          obtain ⟨g4, rfl⟩ := own_addr O4.out (by omega)
          obtain ⟨v, hv⟩ : ∃ v, (bVals b oB vB S D)[k2]? = some v := ⟨_, List.getElem?_eq_getElem (by unfold bVals; rw [col_len, ← VL.out]; omega)⟩
          obtain ⟨s, hs⟩ : ∃ s, (col 0 S)[k2]? = some s := ⟨_, List.getElem?_eq_getElem (by rw [← L1.out]; omega)⟩
          obtain ⟨d, hd⟩ : ∃ d, (col 1 D)[k2]? = some d := ⟨_, List.getElem?_eq_getElem (by rw [← L4.out]; omega)⟩
          have vbd := CP.vb HBE.out v (List.mem_of_getElem? hv)
          have sbd := CP.set_bd HBE.out s (List.mem_of_getElem? hs)
          have dbd := CP.dist_bd HME.out d (List.mem_of_getElem? hd)
          have cbd := coup_bd WC.out.2.2 (x := v - s) (X := 67108864) (by omega) (by omega)
          obtain ⟨cbd1, cbd2, cbd3, cbd4⟩ := cbd
          obtain ⟨x, hx⟩ : ∃ x, coup cp (v - s) = x := ⟨_, rfl⟩
          rw [hx] at cbd3 cbd4
          have w1a : IntKind.i64.wrap (d + x) = d + x := IntWalk.i64_in _ (by omega)
          have MG : Hid ((mDist b cp oB vB S D)[k2]? = some (lim (d + x))) := hid (by rw [← hx]; exact dists_get hd hv hs)
          have o4 := RZ.out.get (p := (.slice (some ⟨g4, 0, none⟩) k q4, ((mDist b cp oB vB S D).take k2 ++ (col 1 D).drop k2))) (by simp)
          have ml4 : ((mDist b cp oB vB S D).take k2 ++ (col 1 D).drop k2).length = k := by rw [mix_len (by rw [← ML.out, ← L4.out]), ← L4.out]
          rw [ml4] at o4
          have o1 := RZ.out.get (p := (.slice (some ⟨g1, 0, none⟩) k q1, col 0 S)) (by simp)
          rw [← L1.out] at o1
          have cd0 := row_cell o4 (k := k2) (x := d) (by rw [mix_get (by rw [← ML.out, ← L4.out]) (by rw [← L4.out]; omega)]; exact hd) ml4.symm
          have cs0 := row_cell o1 (k := k2) (x := s) hs L1.out
          obtain ⟨pb, ob, v', rfl, hpb, hv', hvc⟩ := val_at (Rds.own OB.out (S := Nn) (fun _ _ => id)) (CP.three _ _ _ _ _) VL.out hlt2
          obtain rfl : v = v' := by
            have : (bVals b oB vB S D)[k2]? = some v' := hv'
            rw [hv] at this
            exact Option.some.inj this
          have cv0 := hvc wr (Below.refl _ _)
          have VC := hid hvc
          have O4Z := hid o4
          have CD : Hid (∀ W : World, Below wr.heap.size wr W → W.cell? ⟨g4, k2, none⟩ = some (.int .i64 d)) := hid (fun W hW => (World.cell?_of_block (hW.block _ (own_blk o4 g4 rfl).2)).trans cd0)
          have CS : Hid (∀ W : World, Below wr.heap.size wr W → W.cell? ⟨g1, k2, none⟩ = some (.int .i64 s)) := hid (fun W hW => (World.cell?_of_block (hW.block _ (own_blk o1 g1 rfl).2)).trans cs0)
          have WZ := hid (W1.out.below BZ.out W1.out.lt)
          have ML4 := hid ml4
          have G4 := hid (own_blk O4.out g4 rfl)
          have HX := hid hx
          have HV := hid hv
          have HS2 := hid hs
          have HD := hid hd
          clear hv hs hd hx hv' hvc o4 o1 hpb ml4
          go_wp2_with fail
          refine wp_region_last (fun w' => w'.cell? ⟨g4, k2, none⟩ = some (.int .i64 d) ∧ (Instr.loadAt 29 (.pointer (some ⟨w.heap.size, 0, none⟩))).run Try.prog w' = .ok (.agg #[.int .i64 b.kp, .int .i64 b.ki, .int .i64 b.sh, .int .i64 b.lo, .int .i64 b.hi, .int .i64 b.rate, .int .i64 b.ga, .int .i64 b.la, .int .i64 b.de, .int .i64 m.kp, .int .i64 m.ki, .int .i64 m.sh, .int .i64 m.lo, .int .i64 m.hi, .int .i64 m.rate, .int .i64 m.ga, .int .i64 m.la, .int .i64 m.de, .int .i64 cp]) w' ∧ w'.cell? ⟨pb, ob + k2 * 3 + 2, none⟩ = some (.int .i64 v) ∧ w'.cell? ⟨g1, k2, none⟩ = some (.int .i64 s)) (by kernel_rfl) (by kernel_rfl) ?_
          simp only [dullLast, dullOp, List.length_cons, List.length_nil, Nat.zero_add, Nat.reduceAdd]
          have hS : (fun w' => w'.cell? ⟨g4, k2, none⟩ = some (.int .i64 d) ∧ (Instr.loadAt 29 (.pointer (some ⟨w.heap.size, 0, none⟩))).run Try.prog w' = .ok (.agg #[.int .i64 b.kp, .int .i64 b.ki, .int .i64 b.sh, .int .i64 b.lo, .int .i64 b.hi, .int .i64 b.rate, .int .i64 b.ga, .int .i64 b.la, .int .i64 b.de, .int .i64 m.kp, .int .i64 m.ki, .int .i64 m.sh, .int .i64 m.lo, .int .i64 m.hi, .int .i64 m.rate, .int .i64 m.ga, .int .i64 m.la, .int .i64 m.de, .int .i64 cp]) w' ∧ w'.cell? ⟨pb, ob + k2 * 3 + 2, none⟩ = some (.int .i64 v) ∧ w'.cell? ⟨g1, k2, none⟩ = some (.int .i64 s)) wr.drew := ⟨cd0, load_blk (Blk.drew WZ.out) Try.underlying29 rfl (by kernel_rfl), cv0, cs0⟩
          clear cd0 cv0 cs0
          refine take_at (i := 0) (v := ?_) rfl rfl (by kernel_rfl) (by kernel_rfl) (by kernel_rfl) (fun _ _ _ h => h) (Or.inl ⟨by rfl, ?_⟩) hS ?_
          rotate_left
          · intro w hSw; (try dsimp only at hSw); go_simp; try with_reducible rfl
          try simp only [List.setIfInBounds_toArray, List.set_cons_zero, List.set_cons_succ]
          refine take_at (i := 1) (v := ?_) rfl rfl (by kernel_rfl) (by kernel_rfl) (by kernel_rfl) (fun _ _ _ h => h) (Or.inl ⟨by rfl, ?_⟩) hS ?_
          rotate_left
          · intro w hSw; (try dsimp only at hSw); go_simp; try with_reducible rfl
          try simp only [List.setIfInBounds_toArray, List.set_cons_zero, List.set_cons_succ]
          refine take_at (i := 2) (v := ?_) rfl rfl (by kernel_rfl) (by kernel_rfl) (by kernel_rfl) (fun _ _ _ h => h) (Or.inl ⟨by rfl, ?_⟩) hS ?_
          rotate_left
          · intro w hSw; (try dsimp only at hSw); go_simp; try with_reducible rfl
          try simp only [List.setIfInBounds_toArray, List.set_cons_zero, List.set_cons_succ]
          refine take_at (i := 3) (v := ?_) rfl rfl (by kernel_rfl) (by kernel_rfl) (by kernel_rfl) (fun _ _ _ h => h) (Or.inl ⟨by rfl, ?_⟩) hS ?_
          rotate_left
          · intro w hSw; (try dsimp only at hSw); go_simp; try with_reducible rfl
          try simp only [List.setIfInBounds_toArray, List.set_cons_zero, List.set_cons_succ]
          refine take_at (i := 4) (v := ?_) rfl rfl (by kernel_rfl) (by kernel_rfl) (by kernel_rfl) (fun _ _ _ h => h) (Or.inl ⟨by rfl, ?_⟩) hS ?_
          rotate_left
          · intro w hSw; (try dsimp only at hSw); go_simp; try with_reducible rfl
          try simp only [List.setIfInBounds_toArray, List.set_cons_zero, List.set_cons_succ]
          refine take_at (i := 5) (v := ?_) rfl rfl (by kernel_rfl) (by kernel_rfl) (by kernel_rfl) (fun _ _ _ h => h) (Or.inl ⟨by rfl, ?_⟩) hS ?_
          rotate_left
          · intro w hSw; (try dsimp only at hSw); go_simp; try with_reducible rfl
          try simp only [List.setIfInBounds_toArray, List.set_cons_zero, List.set_cons_succ]
          refine take_at (i := 6) (v := .agg #[.int .i64 b.kp, .int .i64 b.ki, .int .i64 b.sh, .int .i64 b.lo, .int .i64 b.hi, .int .i64 b.rate, .int .i64 b.ga, .int .i64 b.la, .int .i64 b.de, .int .i64 m.kp, .int .i64 m.ki, .int .i64 m.sh, .int .i64 m.lo, .int .i64 m.hi, .int .i64 m.rate, .int .i64 m.ga, .int .i64 m.la, .int .i64 m.de, .int .i64 cp]) rfl rfl (by kernel_rfl) (by kernel_rfl) (by kernel_rfl) (fun _ _ _ h => h) (Or.inl ⟨by rfl, fun wi hSw => exec_load (p := .pointer (some ⟨w.heap.size, 0, none⟩)) rfl rfl hSw.2.1⟩) hS ?_
          try simp only [List.setIfInBounds_toArray, List.set_cons_zero, List.set_cons_succ]
          refine take_at (i := 7) (v := ?_) rfl rfl (by kernel_rfl) (by kernel_rfl) (by kernel_rfl) (fun _ _ _ h => h) (Or.inl ⟨by rfl, ?_⟩) hS ?_
          rotate_left
          · intro w hSw; (try dsimp only at hSw); go_simp; try with_reducible rfl
          try simp only [List.setIfInBounds_toArray, List.set_cons_zero, List.set_cons_succ]
          refine take_at (i := 8) (v := ?_) rfl rfl (by kernel_rfl) (by kernel_rfl) (by kernel_rfl) (fun _ _ _ h => h) (Or.inl ⟨by rfl, ?_⟩) hS ?_
          rotate_left
          · intro w hSw; (try dsimp only at hSw); go_simp; try with_reducible rfl
          try simp only [List.setIfInBounds_toArray, List.set_cons_zero, List.set_cons_succ]
          refine take_at (i := 9) (v := ?_) rfl rfl (by kernel_rfl) (by kernel_rfl) (by kernel_rfl) (fun _ _ _ h => h) (Or.inl ⟨by rfl, ?_⟩) hS ?_
          rotate_left
          · intro w hSw; (try dsimp only at hSw); go_simp; try with_reducible rfl
          try simp only [List.setIfInBounds_toArray, List.set_cons_zero, List.set_cons_succ]
          refine take_at (i := 10) (v := ?_) rfl rfl (by kernel_rfl) (by kernel_rfl) (by kernel_rfl) (fun _ _ _ h => h) (Or.inl ⟨by rfl, ?_⟩) hS ?_
          rotate_left
          · intro w hSw; (try dsimp only at hSw); go_simp; try with_reducible rfl
          try simp only [List.setIfInBounds_toArray, List.set_cons_zero, List.set_cons_succ]
          refine take_at (i := 11) (v := ?_) rfl rfl (by kernel_rfl) (by kernel_rfl) (by kernel_rfl) (fun _ _ _ h => h) (Or.inl ⟨by rfl, ?_⟩) hS ?_
          rotate_left
          · intro w hSw; (try dsimp only at hSw); go_simp; try with_reducible rfl
          try simp only [List.setIfInBounds_toArray, List.set_cons_zero, List.set_cons_succ]
          refine take_at (i := 12) (v := ?_) rfl rfl (by kernel_rfl) (by kernel_rfl) (by kernel_rfl) (fun _ _ _ h => h) (Or.inl ⟨by rfl, ?_⟩) hS ?_
          rotate_left
          · intro w hSw; (try dsimp only at hSw); go_simp; try with_reducible rfl
          try simp only [List.setIfInBounds_toArray, List.set_cons_zero, List.set_cons_succ]
          refine take_at (i := 13) (v := ?_) rfl rfl (by kernel_rfl) (by kernel_rfl) (by kernel_rfl) (fun _ _ _ h => h) (Or.inl ⟨by rfl, ?_⟩) hS ?_
          rotate_left
          · intro w hSw; (try dsimp only at hSw); go_simp; try with_reducible rfl
          try simp only [List.setIfInBounds_toArray, List.set_cons_zero, List.set_cons_succ]
          refine take_at (i := 14) (v := ?_) rfl rfl (by kernel_rfl) (by kernel_rfl) (by kernel_rfl) (fun _ _ _ h => h) (Or.inl ⟨by rfl, ?_⟩) hS ?_
          rotate_left
          · intro w hSw; (try dsimp only at hSw); go_simp; try with_reducible rfl
          try simp only [List.setIfInBounds_toArray, List.set_cons_zero, List.set_cons_succ]
          refine take_at (i := 15) (v := ?_) rfl rfl (by kernel_rfl) (by kernel_rfl) (by kernel_rfl) (fun _ _ _ h => h) (Or.inl ⟨by rfl, ?_⟩) hS ?_
          rotate_left
          · intro w hSw; (try dsimp only at hSw); go_simp; try with_reducible rfl
          try simp only [List.setIfInBounds_toArray, List.set_cons_zero, List.set_cons_succ]
          refine wpAnyH_ready (rs := [16]) (by kernel_rfl) (by simp) ?_
          refine AllReadyH.cons rfl (fun K hK => ?_) AllReadyH.nil
          go_simp
          (go_at_call 47; refine (coup_any b m cp v s _ WC.out.2.2 (by omega)).mono ?_; rintro e w5 ⟨rfl, hb⟩; rw [HX.out])
          have HB5 := hid ((Below.drew (Below.refl wr.heap.size wr)).trans hb)
          have W5 := hid (Blk.below WZ.out HB5.out WZ.out.lt)
          clear hS hb
          refine hK.out _ _ ⟨CD.out _ HB5.out, load_blk W5.out Try.underlying29 rfl (by kernel_rfl), VC.out _ HB5.out, CS.out _ HB5.out⟩ (fun hS => ?_)
          clear hK K
          try simp only [Act.put, List.setIfInBounds_toArray, List.set_cons_zero, List.set_cons_succ]
          refine take_at (i := 17) (v := ?_) rfl rfl (by kernel_rfl) (by kernel_rfl) (by kernel_rfl) (fun _ _ _ h => h) (Or.inl ⟨by rfl, ?_⟩) hS ?_
          rotate_left
          · intro w hSw; (try dsimp only at hSw); go_simp; try with_reducible rfl
          try simp only [List.setIfInBounds_toArray, List.set_cons_zero, List.set_cons_succ]
          refine wpAnyH_ready (rs := [18]) (by kernel_rfl) (by simp) ?_
          refine AllReadyH.cons rfl (fun K hK => ?_) AllReadyH.nil
          go_simp
          (go_at_call 46; refine (limited_any (d + x) _ (by omega)).mono ?_; rintro e w6 ⟨rfl, rfl⟩)
          refine hK.out _ _ hS (fun hS => ?_)
          clear hK K
          try simp only [Act.put, List.setIfInBounds_toArray, List.set_cons_zero, List.set_cons_succ]
          refine take_at (i := 19) (v := ?_) rfl rfl (by kernel_rfl) (by kernel_rfl) (by kernel_rfl) (fun _ _ _ h => h) (Or.inl ⟨by rfl, ?_⟩) hS ?_
          rotate_left
          · intro w hSw; (try dsimp only at hSw); go_simp; try with_reducible rfl
          try simp only [List.setIfInBounds_toArray, List.set_cons_zero, List.set_cons_succ]
          refine take_none (i := 20) (v := ?_) rfl rfl (by kernel_rfl) (by kernel_rfl) (by kernel_rfl) (fun _ _ _ h => h) (Or.inl ⟨by rfl, ?_⟩) hS ?_
          rotate_left
          · intro w hSw; go_simp; try with_reducible rfl
          refine wpAnyH_done (by kernel_rfl) ?_ _
          simp only [LastQ, List.length_cons, List.length_nil, Nat.zero_add, Nat.reduceAdd, Nat.reduceSub, List.drop_succ_cons, List.drop_zero]
          have hst := (own_keep O4Z.out (Chg.of_below (S := fun j => wr.heap.size ≤ j) HB5.out (fun _ _ h => h)) (fun g hg e => by have := (own_blk O4Z.out g hg).2; omega)).stored k2 (.int .i64 (lim (d + x)))
          have hfz := (own_keep O4Z.out (Chg.of_below (S := fun j => wr.heap.size ≤ j) HB5.out (fun _ _ h => h)) (fun g hg e => by have := (own_blk O4Z.out g hg).2; omega)).frozenAt k2
          have hc4 := CD.out _ HB5.out
          have HST := hid hst
          clear hst hS
          go_wp2_with fail
          go_roundw
          case rel =>
            have hst := HST.out.1
            rw [int_set, set_mix MG.out (by rw [← L4.out]; omega)] at hst
            refine ⟨k2 + 1, by omega, by go_num, ?_, ?_, ?_, ?_⟩
            · refine Rws.mid (X := [_, _, _]) RZ.out HB5.out ?_ ((Chg.refl (Rw (.slice (some ⟨g4, 0, none⟩) k q4)) _).setCell (a := ⟨g4, k2, none⟩) (.inl rfl) _) (fun g hg => .inl hg)
              unfold OwnI
              simp only
              rw [mix_len (by rw [← ML.out, ← L4.out]), ← L4.out]
              exact hst
            · exact own_keep (own_keep OB.out (Chg.of_below (S := fun j => wr.heap.size ≤ j) HB5.out (fun _ _ h => h)) (fun g hg e => by have := (own_blk OB.out g hg).2; omega)) ((Chg.refl (fun j => j = g4) _).setCell (a := ⟨g4, k2, none⟩) (.inl rfl) _) (fun g hg e => by have h1 := (own_blk OB.out g hg).1; have h2 := G4.out.2; omega)
            · exact (BZ.out.trans (HB5.out.mono BZ.out.size)).setCell (show w1.heap.size ≤ (⟨g4, k2, none⟩ : Addr).block from G4.out.1) _
            · exact Nat.le_trans SZ2.out (by simpa using HB5.out.size)
          case measure => simp [intOf]; omega
        · obtain rfl : k2 = k := by omega
          have RG : Hid (Rws wr w1.heap.size [(.slice A1 k2 q1, col 0 S), (.slice A2 k2 q2, col 1 S), (.slice A3 k2 q3, col 0 D), (.slice A4 k2 q4, mDist b cp oB vB S D)]) := hid (by
            have := RZ.out
            rw [List.take_of_length_le (by rw [← ML.out]; exact Nat.le_refl _), List.drop_eq_nil_of_le (by rw [← L4.out]; exact Nat.le_refl _), List.append_nil] at this
            exact this)
          have WZ := hid (W1.out.below BZ.out W1.out.lt)
          have ZZ := hid (T1.out.below BZ.out T1.out.lt)
          have BW2 := hid (B1.out.trans (BZ.out.mono B1.out.size))
          have cW := WZ.out.cell
          have cZ := ZZ.out.cell
          have h2 := RG.out.get (p := (.slice A2 k2 q2, col 1 S)) (by simp)
          have h4 := RG.out.get (p := (.slice A4 k2 q4, mDist b cp oB vB S D)) (by simp)
          simp only at h2 h4
          rw [← L2.out] at h2
          rw [← ML.out] at h4
          have D2' := hid (Rds.own (S := Nn) h2 (fun _ _ => id))
          have D4' := hid (Rds.own (S := Nn) h4 (fun _ _ => id))
          clear h2 h4
          go_wp2_with fail
          refine (crun_ok m oM vM _ _ _ _ k2 (col 1 S) (mDist b cp oB vB S D) _ D2'.out D4'.out L2.out ML.out (by omega) (mErr WE.out)).mono ?_
          rintro e w4 ⟨AM, qm, rfl, hom, hb⟩
          have OM4 := hid (Rds.own (S := Nn) hom (fun _ _ => id))
          have OB4 := hid ((Rds.own (S := Nn) OB.out (fun _ _ => id)).below hb)
          have B4 := hid (BW2.out.trans (hb.mono BW2.out.size))
          have VL3 : Hid (k2 = (m.rows oM vM (col 1 S) (mDist b cp oB vB S D)).length) := hid (by rw [CP.rows_len (mErr WE.out)]; exact L2.out)
          clear hom hb cW cZ
          go_wp2
          go_loopw [23, 154] (fun u i wy => ∃ k3 : Nat, k3 ≤ k2 ∧ i = .int .i64 k3 ∧ wy.ownsRow w4.heap.size 60 2 u k3 (ints ((pairs (bVals b oB vB S D) (mVals b m cp oB oM vB vM S D)).take k3).flatten) ∧ Below w4.heap.size w4 wy) (fun _ i _ => k2 - (intOf i).toNat)
          case atStart => exact ⟨0, Nat.zero_le _, rfl, own_nil _ _ _ _, Below.refl _ _⟩
          case round =>
            obtain ⟨k3, hk3, rfl, hown, hbel⟩ := hrel
            have OW := hid hown
            have BB3 := hid hbel
            clear hbel
            by_cases hlt3 : k3 < k2
            · obtain ⟨pb, ob, v, rfl, _, hv, hvc⟩ := val_at OB4.out (CP.three _ _ _ _ _) VL.out hlt3
              obtain ⟨pm, om, x, rfl, _, hx, hxc⟩ := val_at OM4.out (CP.three _ _ _ _ _) VL3.out hlt3
              obtain ⟨A, cp3, rfl, _, _⟩ := own_form hown
              have EE : Hid (∀ W : World, Below w4.heap.size w4 W → W.cell? ⟨pb, ob + k3 * 3 + 2, none⟩ = some (.int .i64 v) ∧ W.cell? ⟨pm, om + k3 * 3 + 2, none⟩ = some (.int .i64 x)) := hid (fun W hW => ⟨hvc W hW, hxc W hW⟩)
              have PX : Hid ((pairs (bVals b oB vB S D) (mVals b m cp oB oM vB vM S D)).take (k3 + 1) = (pairs (bVals b oB vB S D) (mVals b m cp oB oM vB vM S D)).take k3 ++ [[v, x]]) := hid (take_more (pairs_get hv hx))
              clear hown hv hx hvc hxc
              go_upto_region 34 with fail
              go_region_held3 (fun w' => w'.cell? ⟨pb, ob + k3 * 3 + 2, none⟩ = some (.int .i64 v) ∧ w'.cell? ⟨pm, om + k3 * 3 + 2, none⟩ = some (.int .i64 x)) (exact EE.out _ (by repeat (first | with_reducible exact BB3.out | with_reducible exact PB.out | with_reducible refine Below.drew ?_ | with_reducible refine Below.alloc ?_ (by first | exact Nat.le_trans BB3.out.size (by simp)) _))) (first
                | (refine step_app (n := k3) (v := .slice A k3 cp3) (xs := ints ((pairs (bVals b oB vB S D) (mVals b m cp oB oM vB vM S D)).take k3).flatten) (m := 1) (S := Nn) (news := [.int .i64 v, .int .i64 x]) (s := .tmp 157) (x := .tmp 169) infoR Try.underlying39 (by kernel_rfl) (by omega) (by omega) (own_keep (own_base_le OW.out (Nat.zero_le _)) (by repeat (first | with_reducible exact Chg.refl _ _ | with_reducible refine Chg.drew ?_ | with_reducible refine Chg.alloc ?_ _)) (fun _ _ => id)) (by repeat (first | with_reducible exact Rds.pairAt _ _ _ _ _ (by simp) | with_reducible refine Rds.drewK ?_ | with_reducible refine Rds.allocK ?_)) (by intro u hu; simp at hu; rcases hu with rfl | rfl <;> rfl) (by omega) rfl rfl rfl rfl ?_; intro y6 w6 hown hchg hnew; have PB : Hid (Below w4.heap.size w4 w6) := hid (Below.trans (by repeat (first | with_reducible exact BB3.out | with_reducible refine Below.drew ?_ | with_reducible refine Below.alloc ?_ (by first | exact Nat.le_trans BB3.out.size (by simp)) _)) (hchg.below (by first | exact Nat.le_trans BB3.out.size (by simp)) (fun j hj hf => by have := (own_blk OW.out j hf).1; omega))); have PO : Hid (w6.ownsRow w4.heap.size 60 2 y6 (k3 + 1) (ints ((pairs (bVals b oB vB S D) (mVals b m cp oB oM vB vM S D)).take (k3 + 1)).flatten)) := hid (by rw [PX.out, List.flatten_append, ints_append]; exact own_rebase hown (fun g hg => (hnew g hg).elim (fun e => (own_blk OW.out g e).1) (fun e => by have := BB3.out.size; simp at e; omega))); have s6 := EE.out _ PB.out; clear hown hchg hnew))
              go_wp2_with fail
              go_roundw
              case rel => exact ⟨k3 + 1, by omega, by go_num, PO.out, PB.out⟩
              case measure => simp [intOf]; omega
            · obtain rfl : k3 = k2 := by omega
              have hown := OW.out
              rw [List.take_of_length_le (by rw [pairs_len (by rw [mVals_len WE.out, bVals_len WE.out]), bVals_len WE.out, ← N1.out]; exact Nat.le_refl _)] at hown
              have OF := hid hown
              clear hown
              go_wp2
              go_ret2
              exact wr_good WE.out N1.out (own_base_le OF.out B4.out.size) (B4.out.trans (BB3.out.mono B4.out.size))
end Go.Proofs.Ytddphdkhaaolmaa
