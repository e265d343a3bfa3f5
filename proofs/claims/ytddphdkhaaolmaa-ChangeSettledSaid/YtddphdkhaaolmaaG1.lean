/- Repeat of one element. -/
import Derived.Test.YtddphdkhaaolmaaGKit
import Derived.Test.YtddphdkhaaolmaaMake
import Derived.Laws.CopyOwn
import Derived.Laws.MathBits
namespace Go.Proofs.Ytddphdkhaaolmaa
open Go.RowKit

theorem run_copy_rows {P : Program} (w : World) (dT sT ty elem : TypeId) (sz g o dLen dCap : Nat) (a : Addr) (sLen sCap : Nat) (cur : Array Value) (t : TypeId) (cs : List Value)
    (hu : P.underlying dT = some (.slice elem)) (hs : (P.info? elem).map (·.size) = some sz)
    (hg : w.heap[g]? = some (.cells cur t (0, 0))) (hn : cs.length = Nat.min sLen dLen * sz)
    (hsrc : ∀ j v, cs[j]? = some v → w.cell? (a.add j) = some v) (hfit : o + cs.length ≤ cur.size) (h1 : ∀ v ∈ cs, v.oneCell' = true) :
    (Builtin.copy_ #[dT, sT] ty #[.slice (some ⟨g, o, none⟩) dLen dCap, .slice (some a) sLen sCap]).run P w =
      .ok (goInt (Nat.min sLen dLen)) (w.setRow g (cur.toList.take o ++ cs ++ cur.toList.drop (o + cs.length)).toArray) := by
  have hl := run_loadCells_list (P := P) w a cs hsrc
  have hst := run_storeCells_at P g o t cs 0 cur w hg (by simpa using hfit) h1
  cases hq : P.info? elem with
  | none => simp [hq] at hs
  | some i =>
    have hi : i.size = sz := by simpa [hq] using hs
    simp [Builtin.copy_, run_underlying hu, Builtin.lenOf, Builtin.firstCells, sizeOf, typeInfo, hq, hi, ← hn, hl, hst]
theorem step_copy_rows {P : Program} {ops : Array Oper} {o : Oper} {a : Act} {w : World} {K : Act → World → Prop} {Q : Exit → Act → World → Prop} {E : Prop} {d s : Operand} {dT sT elem : TypeId} {sz g off dLen dCap sLen sCap q : Nat} {ad : Addr} {cur cs : List Value} {t : TypeId} (hgd : o.guard = none)
    (ho : o.op = .call { callee := .builtin .copy, args := #[d, s], argTypes := #[dT, sT] }) (hu : P.underlying dT = some (.slice elem)) (hsz : (P.info? elem).map (·.size) = some sz)
    (hd : a.eval d = .slice (some ⟨g, off, none⟩) dLen dCap) (hs : a.eval s = .slice (some ad) sLen sCap) (hq : Nat.min sLen dLen = q)
    (hg : w.heap[g]? = some (.cells cur.toArray t (0, 0))) (hn : cs.length = q * sz) (hsrc : ∀ j v, cs[j]? = some v → w.cell? (ad.add j) = some v)
    (hfit : off + cs.length ≤ cur.length) (h1 : ∀ v ∈ cs, v.oneCell' = true)
    (h : K (a.put o.dst (.int .i64 (q : Int))) (w.setRow g (splice cur off cs).toArray)) :
    if Region.wanted o (yielded ops a.tmps) = true then Oper.wp P o a w K Q else E := by
  have hw : Region.wanted o (yielded ops a.tmps) = true := by simp [Region.wanted, hgd]
  rw [if_pos hw]
  subst hq
  have hrun := run_copy_rows (P := P) w dT sT o.type elem sz g off dLen dCap ad sLen sCap cur.toArray t cs hu hsz hg hn hsrc (by simpa using hfit) h1
  unfold Oper.wp
  simp [execOp, ho, resolve, invoke, builtin, hd, hs, hrun, Result.andThen]
  exact h
theorem wpList_copy_rows {P : Program} {ops : Array Oper} {rest : List Oper} {o : Oper} {a : Act} {w : World} {Q : Exit → Act → World → Prop} {d s : Operand} {dT sT elem : TypeId} {sz g off dLen dCap sLen sCap q : Nat} {ad : Addr} {cur cs : List Value} {t : TypeId} (hgd : o.guard = none)
    (ho : o.op = .call { callee := .builtin .copy, args := #[d, s], argTypes := #[dT, sT] }) (hu : P.underlying dT = some (.slice elem)) (hsz : (P.info? elem).map (·.size) = some sz)
    (hd : a.eval d = .slice (some ⟨g, off, none⟩) dLen dCap) (hs : a.eval s = .slice (some ad) sLen sCap) (hq : Nat.min sLen dLen = q)
    (hg : w.heap[g]? = some (.cells cur.toArray t (0, 0))) (hn : cs.length = q * sz) (hsrc : ∀ j v, cs[j]? = some v → w.cell? (ad.add j) = some v)
    (hfit : off + cs.length ≤ cur.length) (h1 : ∀ v ∈ cs, v.oneCell' = true)
    (h : wpList P ops Q rest (a.put o.dst (.int .i64 (q : Int))) (w.setRow g (splice cur off cs).toArray)) : wpList P ops Q (o :: rest) a w := by
  refine wpList_plain hgd fun K hK => ?_
  have := step_copy_rows (ops := ops) (K := K) (Q := Q) (E := True) (o := o) (a := a) hgd ho hu hsz hd hs hq hg hn hsrc hfit h1 (hK _ _ h)
  rw [if_pos (by simp [Region.wanted, hgd])] at this
  exact this
/-- A row of k elements, of which the first j are E, the others Z. -/
def rowJ (E Z : List Value) (k j : Nat) : List Value := (List.replicate j E).flatten ++ (List.replicate (k - j) Z).flatten
section
variable {E Z : List Value} {sz k j q : Nat}
theorem rep_len (h : E.length = sz) (q : Nat) : (List.replicate q E).flatten.length = q * sz := by simp [h]
theorem rep_one (h : ∀ u ∈ E, u.oneCell' = true) (q : Nat) : ∀ u ∈ (List.replicate q E).flatten, u.oneCell' = true := by
  intro u hu
  obtain ⟨l, hl, hu⟩ := List.mem_flatten.1 hu
  exact h u ((List.mem_replicate.1 hl).2 ▸ hu)
theorem rowJ_len (h : E.length = sz) (hz : Z.length = sz) (hj : j ≤ k) : (rowJ E Z k j).length = k * sz := by
  unfold rowJ
  rw [List.length_append, rep_len h, rep_len hz, ← Nat.add_mul]
  congr 1
  omega
theorem rep_fit (h : E.length = sz) (hz : Z.length = sz) (hj : j + q ≤ k) : j * sz + (List.replicate q E).flatten.length ≤ (rowJ E Z k j).length := by
  rw [rowJ_len h hz (by omega), rep_len h, ← Nat.add_mul]
  exact Nat.mul_le_mul_right _ hj
theorem rep_src {w : World} {g : Nat} {t : TypeId} (hg : Blk w g t (rowJ E Z k j).toArray) (hq : q ≤ j) : ∀ i v, (List.replicate q E).flatten[i]? = some v → w.cell? ((⟨g, 0, none⟩ : Addr).add i) = some v := by
  intro i v hv
  have hi := (List.getElem?_eq_some_iff.1 hv).1
  rw [add_at, hg.cell]
  have e : List.replicate j E = List.replicate q E ++ List.replicate (j - q) E := by rw [List.replicate_append_replicate]; congr 1; omega
  simp only [List.getElem?_toArray, rowJ]
  rw [e, List.flatten_append, List.append_assoc, Nat.zero_add, List.getElem?_append_left hi]
  exact hv
theorem rowJ_splice (h : E.length = sz) (hz : Z.length = sz) (hj : j + q ≤ k) : splice (rowJ E Z k j) (j * sz) (List.replicate q E).flatten = rowJ E Z k (j + q) := by
  have l1 := rep_len h j
  have l2 := rep_len h q
  have l3 := rep_len hz q
  have e : List.replicate (k - j) Z = List.replicate q Z ++ List.replicate (k - (j + q)) Z := by rw [List.replicate_append_replicate]; congr 1; omega
  have e2 : List.replicate (j + q) E = List.replicate j E ++ List.replicate q E := by rw [List.replicate_append_replicate]
  unfold splice rowJ
  rw [e, e2, List.flatten_append, List.flatten_append, List.take_append_of_le_length (by omega), List.take_of_length_le (by omega), l2, List.append_assoc]
  congr 1
  congr 1
  rw [← List.append_assoc, List.drop_append_of_le_length (by rw [List.length_append]; omega), List.drop_eq_nil_of_le (by rw [List.length_append]; omega), List.nil_append]
theorem made_row (hz : Z.length = sz) (h0 : 0 < sz) : madeCells Z.toArray (k * sz) = (rowJ E Z k 0).toArray := by
  subst hz
  apply Array.toList_inj.1
  apply List.ext_getElem?
  intro i
  simp only [rowJ, List.replicate_zero, List.flatten_nil, List.nil_append, Nat.sub_zero]
  rw [flatten_get Z.length h0 _ (fun r hr => by rw [(List.mem_replicate.1 hr).2])]
  rcases Nat.lt_or_ge i (k * Z.length) with hi | hi
  · have h1 : i / Z.length < k := Nat.div_lt_of_lt_mul (by rw [Nat.mul_comm]; exact hi)
    have h2 : i % Z.length < Z.length := Nat.mod_lt _ h0
    simp [madeCells, hi, h1, h2]
  · have h1 : ¬ i / Z.length < k := by
      have := (Nat.le_div_iff_mul_le h0 (x := k) (y := i)).2 hi
      omega
    simp [madeCells, h1]
    omega
theorem own_row {w : World} {g base : Nat} {e : TypeId} (h : E.length = sz) (hg : Blk w g e (rowJ E Z k k).toArray) (hb : base ≤ g) (hk : k ≤ maxLen) : w.ownsRow base e sz (.slice (some ⟨g, 0, none⟩) k k) k (List.replicate k E).flatten := by
  have e1 : rowJ E Z k k = (List.replicate k E).flatten := by simp [rowJ]
  rw [e1] at hg
  refine ⟨rep_len h k, .inr ⟨g, k, _, rfl, hb, hg, Nat.le_refl _, hk, by simp [h], ?_⟩⟩
  exact List.take_of_length_le (by rw [rep_len h]; exact Nat.le_refl _)
theorem rep_one_src {w : World} {ad : Addr} (h : Rds Nn w sz (some ad) 1 E) (hq : q ≤ 1) : ∀ i v, (List.replicate q E).flatten[i]? = some v → w.cell? (ad.add i) = some v := by
  intro i v hv
  obtain ⟨ad', e, _, _, hc⟩ := h.2 (by decide)
  injection e with e
  subst e
  match q, hq with
  | 0, _ => simp at hv
  | 1, _ => exact hc i v (by simpa using hv)
theorem rep_splice {w : World} {g : Nat} {t : TypeId} (h : E.length = sz) (hz : Z.length = sz) (hg : Blk w g t (rowJ E Z k j).toArray) (hj : j + q ≤ k) : Blk (w.setRow g (splice (rowJ E Z k j) (j * sz) (List.replicate q E).flatten).toArray) g t (rowJ E Z k (j + q)).toArray := by
  rw [rowJ_splice h hz hj]
  exact Blk.row hg _
end
set_option linter.unusedSimpArgs false in
set_option maxRecDepth 100000 in
set_option maxHeartbeats 4000000 in
theorem mul64_any (k : Int) (w : World) (h : 0 ≤ k ∧ k ≤ 100000) : Calls Try.prog 71 #[.int .u64 1, .int .u64 k] w fun e w' => e = .returned (.tuple #[.int .u64 0, .int .u64 k]) ∧ w' = w := by
  have b1 : bits BinOp.and IntKind.u64 1 4294967295 = 1 := by decide
  have b0 : bits BinOp.and IntKind.u64 0 4294967295 = 0 := by decide
  have bk : bits BinOp.and IntKind.u64 k 4294967295 = k := by rw [and_low32 k (by omega) (by omega)]; omega
  have dk : k / 4294967296 = 0 := by omega
  have wk : IntKind.u64.wrap k = k := by rw [IntKind.wrap_u64]; omega
  have mk : 1 * k = k := by omega
  go_enter Try.func71, Try.ntmps71
  go_wp2
  go_ret2
  exact ⟨rfl, rfl⟩
set_option linter.unusedSimpArgs false in
set_option maxRecDepth 100000 in
set_option maxHeartbeats 4000000 in
theorem mul_any (k : Int) (w : World) (h : 0 ≤ k ∧ k ≤ 100000) : Calls Try.prog 48 #[.int .u64 1, .int .u64 k] w fun e w' => e = .returned (.tuple #[.int .u64 0, .int .u64 k]) ∧ w' = w := by
  go_enter Try.func48, Try.ntmps48
  go_wp2_with fail
  refine (mul64_any k _ h).mono ?_
  rintro e w1 ⟨rfl, rfl⟩
  go_wp2
  go_ret2
  exact ⟨rfl, rfl⟩
set_option linter.unusedSimpArgs false in
set_option maxRecDepth 100000 in
set_option maxHeartbeats 4000000 in
theorem repeat_any (E : List Value) (A : Option Addr) (c k : Nat) (w : World) (r : Rds Nn w 2 A 1 E) (h1 : ∀ u ∈ E, u.oneCell' = true) (hk : k ≤ 100000) : Calls Try.prog 32 #[.slice A 1 c, .int .i64 (k : Int)] w fun e w' => ∃ u, e = .returned u ∧ w'.ownsRow w.heap.size 60 2 u k (List.replicate k E).flatten ∧ Below w.heap.size w w' := by
  have LE : Hid (E.length = 2) := hid (by have := r.1; omega)
  have OE := hid h1
  have R1 := hid r
  obtain ⟨Z, hZ⟩ : ∃ Z : List Value, [.int .i64 0, .int .i64 0] = Z := ⟨_, rfl⟩
  have LZ : Hid (Z.length = 2) := hid (by rw [← hZ]; rfl)
  obtain ⟨ad, hA⟩ : ∃ ad, A = some ad := by
    obtain ⟨p, o, hA, _⟩ := Rds.plain r (by decide) (by decide)
    exact ⟨_, hA⟩
  subst hA
  clear r h1
  have hmk := run_make_any (P := Try.prog) 39 60 (.agg [.int .i64 0, .int .i64 0].toArray) 2 16 Try.underlying39 infoR .i64 .i64 k (by omega) (by omega)
  have wk : IntKind.i64.wrap (k : Int) = k := IntWalk.i64_in _ (by omega)
  have hn0 : ¬ ((k : Int) < 0) := by omega
  have hn9 : ¬ ((9223372036854775807 : Int) < k) := by omega
  have wk2 : IntKind.u64.wrap (k : Int) = k := by rw [IntKind.wrap_u64]; omega
  go_enter Try.func32, Try.ntmps32
  go_wp2_with fail
  refine (mul_any k _ (by omega)).mono ?_
  rintro e w1 ⟨rfl, hw⟩
  have hw := hw.symm
  subst hw
  go_upto_region 7 with fail
  obtain ⟨g, hg⟩ : ∃ g, w.heap.size = g := ⟨_, rfl⟩
  obtain ⟨q, hq⟩ : ∃ q, Nat.min 1 k = q := ⟨_, rfl⟩
  have HG := hid hg
  have HQ := hid hq
  have Q1 : Hid (q ≤ 1 ∧ q ≤ k ∧ (1 ≤ q ∨ k = 0)) := hid (by have : min 1 k = q := hq; omega)
  have GM : Hid (Blk (w.alloc (.cells (madeCells Z.toArray (k * 2)) 60)) g 60 (rowJ E Z k 0).toArray) := hid (by rw [← made_row LZ.out (by decide)]; exact Blk.at_new w hg.symm)
  have BM := hid ((Below.refl w.heap.size w).alloc (Nat.le_refl _) (.cells (madeCells Z.toArray (k * 2)) 60))
  have RM := hid (R1.out.allocS (.cells (madeCells Z.toArray (k * 2)) 60))
  rw [hg]
  clear hg hq hmk
  generalize (w.alloc (.cells (madeCells Z.toArray (k * 2)) 60)) = wm at GM BM RM ⊢
  have hcp : (Builtin.copy_ #[39, 39] 3 #[.slice (some ⟨g, 0, none⟩) k k, .slice (some ad) 1 c]).run Try.prog wm = .ok (.int .i64 (q : Int)) (wm.setRow g (splice (rowJ E Z k 0) 0 (List.replicate q E).flatten).toArray) := by
    have := run_copy_rows (P := Try.prog) wm 39 39 3 60 2 g 0 k k ad 1 c (rowJ E Z k 0).toArray 60 (List.replicate q E).flatten Try.underlying39 (by kernel_rfl) GM.out (by rw [rep_len LE.out, HQ.out]) (rep_one_src RM.out Q1.out.1) (by have := rep_fit (k := k) (j := 0) LE.out LZ.out (by have := Q1.out.2.1; omega : 0 + q ≤ k); simpa using this) (rep_one OE.out q)
    rw [HQ.out] at this
    simpa [splice, goInt] using this
  go_wp2
  clear hcp
  have G5 : Hid (Blk (wm.setRow g (splice (rowJ E Z k 0) 0 (List.replicate q E).flatten).toArray) g 60 (rowJ E Z k q).toArray) := hid (by have := rep_splice (w := wm) (j := 0) (q := q) LE.out LZ.out GM.out (by have := Q1.out.2.1; omega); simpa using this)
  have B5 := hid (Below.row BM.out (show w.heap.size ≤ g by have := HG.out; omega) ((splice (rowJ E Z k 0) 0 (List.replicate q E).flatten).toArray))
  generalize (wm.setRow g (splice (rowJ E Z k 0) 0 (List.replicate q E).flatten).toArray) = wn at G5 B5 ⊢
  go_loopw [8] (fun i wr => ∃ j : Nat, j ≤ k ∧ i = .int .i64 j ∧ (1 ≤ j ∨ k = 0) ∧ Blk wr g 60 (rowJ E Z k j).toArray ∧ Below w.heap.size w wr) (fun i _ => k - (intOf i).toNat)
  case atStart => exact ⟨q, Q1.out.2.1, rfl, Q1.out.2.2, G5.out, B5.out⟩
  case round =>
    clear G5 B5 HQ Q1
    obtain ⟨j, hj, rfl, hj1, hgb, hbel⟩ := hrel
    have GB := hid hgb
    have BB := hid hbel
    clear hgb hbel
    by_cases hlt : j < k
    · obtain ⟨q, hq⟩ : ∃ q, Nat.min j (k - j) = q := ⟨_, rfl⟩
      have HQ := hid hq
      have hq2 : 1 ≤ q ∧ j + q ≤ k ∧ q ≤ j := by have : min j (k - j) = q := hq; omega
      clear hq
      obtain ⟨hq3, hq4, hq5⟩ := hq2
      have hkj : ¬ k = j := by omega
      have wq : IntKind.i64.wrap ((j : Int) + q) = j + q := IntWalk.i64_in _ (by omega)
      go_upto_region 9 with fail
      refine wp_region_hand (fun _ => True) (by kernel_rfl) ?_
      simp only [List.length_cons, List.length_nil, Nat.zero_add, Nat.reduceAdd]
      have hS : True := trivial
      refine take_at (i := 0) (v := ?_) rfl rfl (by kernel_rfl) (by kernel_rfl) (by kernel_rfl) (fun _ _ _ h => h) (Or.inl ⟨by rfl, ?_⟩) hS ?_
      rotate_left
      · intro w hSw; (try dsimp only at hSw); go_simp; try with_reducible rfl
      try simp only [List.setIfInBounds_toArray, List.set_cons_zero, List.set_cons_succ]
      refine take_at (i := 1) (v := ?_) rfl rfl (by kernel_rfl) (by kernel_rfl) (by kernel_rfl) (fun _ _ _ h => h) (Or.inl ⟨by rfl, ?_⟩) hS ?_
      rotate_left
      · intro w hSw; (try dsimp only at hSw); go_simp; try with_reducible rfl
      try simp only [List.setIfInBounds_toArray, List.set_cons_zero, List.set_cons_succ]
      refine take_at (i := 2) (v := ?_) rfl rfl (by kernel_rfl) (by kernel_rfl) (by kernel_rfl) (fun _ _ _ h => h) (Or.inl ⟨by rfl, ?_⟩) hS ?_
      rotate_left
      · intro w hSw; (try dsimp only at hSw); go_simp; try with_reducible rfl
      try simp only [List.setIfInBounds_toArray, List.set_cons_zero, List.set_cons_succ]
      refine take_at (i := 3) (v := ?_) rfl rfl (by kernel_rfl) (by kernel_rfl) (by kernel_rfl) (fun _ _ _ h => h) (Or.inl ⟨by rfl, ?_⟩) hS ?_
      rotate_left
      · intro w hSw; (try dsimp only at hSw); go_simp; try with_reducible rfl
      try simp only [List.setIfInBounds_toArray, List.set_cons_zero, List.set_cons_succ]
      refine take_at (i := 4) (v := ?_) rfl rfl (by kernel_rfl) (by kernel_rfl) (by kernel_rfl) (fun _ _ _ h => h) (Or.inl ⟨by rfl, ?_⟩) hS ?_
      rotate_left
      · intro w hSw; (try dsimp only at hSw); go_simp; try with_reducible rfl
      try simp only [List.setIfInBounds_toArray, List.set_cons_zero, List.set_cons_succ]
      refine take_at (i := 5) (v := ?_) rfl rfl (by kernel_rfl) (by kernel_rfl) (by kernel_rfl) (fun _ _ _ h => h) (Or.inl ⟨by rfl, ?_⟩) hS ?_
      rotate_left
      · intro w hSw; (try dsimp only at hSw); go_simp; try with_reducible rfl
      try simp only [List.setIfInBounds_toArray, List.set_cons_zero, List.set_cons_succ]
      refine take_at (i := 6) (v := ?_) rfl rfl (by kernel_rfl) (by kernel_rfl) (by kernel_rfl) (fun _ _ _ h => h) (Or.inl ⟨by rfl, ?_⟩) hS ?_
      rotate_left
      · intro w hSw; (try dsimp only at hSw); go_simp; try with_reducible rfl
      try simp only [List.setIfInBounds_toArray, List.set_cons_zero, List.set_cons_succ]
      refine wpAnyH_ready (rs := [7]) (by kernel_rfl) (by simp) ?_
      refine AllReadyH.cons rfl (fun K hK => ?_) AllReadyH.nil
      refine step_copy_rows (elem := 60) (sz := 2) (g := g) (off := j * 2) (q := q) (cur := (rowJ E Z k j)) (t := 60) (cs := (List.replicate q E).flatten) rfl rfl Try.underlying39 (by kernel_rfl) rfl rfl (by exact HQ.out) (Blk.drew GB.out) (rep_len LE.out q) (rep_src (Blk.drew GB.out) (by omega)) (rep_fit LE.out LZ.out (by omega)) (rep_one OE.out q) ?_
      have G5 := hid (rep_splice (w := wr.drew) LE.out LZ.out (Blk.drew GB.out) (show j + q ≤ k by omega))
      have B5 := hid (Below.row (w := wr.drew) (Below.drew BB.out) (show w.heap.size ≤ g by have := HG.out; omega) ((splice (rowJ E Z k j) (j * 2) (List.replicate q E).flatten).toArray))
      clear hS
      refine hK.out _ _ trivial (fun hS => ?_)
      clear hK K
      try simp only [Act.put, List.setIfInBounds_toArray, List.set_cons_zero, List.set_cons_succ]
      refine take_at (i := 8) (v := ?_) rfl rfl (by kernel_rfl) (by kernel_rfl) (by kernel_rfl) (fun _ _ _ h => h) (Or.inl ⟨by rfl, ?_⟩) hS ?_
      rotate_left
      · intro w hSw; (try dsimp only at hSw); go_simp; try with_reducible rfl
      try simp only [List.setIfInBounds_toArray, List.set_cons_zero, List.set_cons_succ]
      refine take_at (i := 9) (v := ?_) rfl rfl (by kernel_rfl) (by kernel_rfl) (by kernel_rfl) (fun _ _ _ h => h) (Or.inl ⟨by rfl, ?_⟩) hS ?_
      rotate_left
      · intro w hSw; (try dsimp only at hSw); go_simp; try with_reducible rfl
      try simp only [List.setIfInBounds_toArray, List.set_cons_zero, List.set_cons_succ]
      refine wpAnyH_done (by kernel_rfl) ?_ _
      simp only [Sure, Exit.then]
      clear hS
      go_roundw
      case rel => exact ⟨_, _, _, _, _, _, _, _, _, _, _, _, _, _, ⟨j + q, by omega, by go_num, .inl (by omega), G5.out, B5.out⟩, rfl⟩
      case measure => simp [intOf] <;> omega
    · obtain rfl : j = k := by omega
      go_wp2
      go_ret
      exact ⟨_, rfl, own_row LE.out GB.out (by have := HG.out; omega) (by unfold maxLen; omega), BB.out⟩
end Go.Proofs.Ytddphdkhaaolmaa
