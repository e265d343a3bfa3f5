/- Chapter 38: the list of the patterns. -/
import Derived.Test.YtccgbojcghbdcaaSPn4
namespace Go.Proofs.Ytccgbojcghbdcaa
open Go.RowKit

def NewPats (w : World) (L : List (List Int)) : Ending → World → Prop := fun e w' => ∃ u vs, e = .returned u ∧ w'.ownsRow w.heap.size 30 1 u L.length vs ∧ PRow Nn w' vs L ∧ Below w.heap.size w w'
theorem CI.below {q : Env} {v : Value} {cs : List Int} {L : List (List Int)} {w w' : World} (h : CI q v cs L w) (hb : Below w.heap.size w w') : CI q v cs L w' := by
  obtain ⟨vs, hv, hp⟩ := h.row
  refine ⟨h.o.below hb h.o.lt, h.m.below hb h.m.lt, h.c.below hb h.c.lt, h.d.below hb h.d.lt, h.f.below hb h.f.lt, h.arr.below hb h.arr.lt, h.len, ⟨vs, ?_, hp.below' hb⟩, h.bel.trans (hb.mono h.bel.size), Nat.le_trans h.sz hb.size⟩
  exact own_keep hv (Chg.of_below (S := fun b => w.heap.size ≤ b) hb (fun _ _ h => h)) (fun b hb2 e => by have := (own_blk hv b hb2).2; omega)
def envL (W E T J : Int) (a : Option Addr) (c n m : Nat) (zs : List Int) (w : World) : Env := ⟨w.heap.size + 1 + 1, w.heap.size + 1, w.heap.size + 1 + 1 + 1 + 1, w.heap.size, w.heap.size + 1 + 1 + 1 + 1 + 1, w.heap.size + 1 + 1 + 1, w.heap.size + 1 + 1 + 1 + 1 + 1 + 1, W, E, T, J, a, c, n, m, zs, w⟩
theorem made_zeros (n : Nat) : madeCells #[Value.int .i64 0] n = (ints (List.replicate n 0)).toArray := by
  apply Array.toList_inj.1
  rw [toList_madeCells_one]
  simp [ints]
theorem envL_ok {W E T J : Int} {a : Option Addr} {c n m : Nat} {zs : List Int} {w : World} (r : Rds Nn w 1 a n (ints zs)) (hn : n = zs.length) (hr : Right W E T J zs) (hm : m ≤ 100000) : (envL W E T J a c n m zs w).Ok :=
  ⟨r, hn, hr, hm, by simp [envL]; omega, by simp [envL]; omega, by simp [envL]; omega, by simp [envL]; omega⟩
theorem list_start (W E T J : Int) (a : Option Addr) (c n m : Nat) (zs : List Int) (w : World) : CI (envL W E T J a c n m zs w) (.slice none 0 0) ([] ++ List.replicate n 0) [] ((((((w.alloc (.cells #[.int .i64 W, .int .i64 E, .int .i64 T, .int .i64 J, .slice a n c] 32)).alloc (.cells #[.int .i64 (m : Int)] 3)).alloc (.cells #[.slice none 0 0] 89)).alloc (.cells (madeCells #[.int .i64 0] n) 3)).alloc (.cells #[.slice (some ⟨w.heap.size + 1 + 1 + 1, 0, none⟩) n n] 30)).alloc (.cells #[.func (.func 66) #[] #[.pointer (some ⟨w.heap.size + 1 + 1, 0, none⟩), .pointer (some ⟨w.heap.size + 1, 0, none⟩), .pointer (some ⟨w.heap.size + 1 + 1 + 1 + 1, 0, none⟩), .pointer (some ⟨w.heap.size, 0, none⟩), .pointer (some ⟨w.heap.size + 1 + 1 + 1 + 1 + 1, 0, none⟩)]] 98)) := by
  refine ⟨(Blk.alloc (Blk.alloc (Blk.alloc (Blk.at_new ((w.alloc (.cells #[.int .i64 W, .int .i64 E, .int .i64 T, .int .i64 J, .slice a n c] 32)).alloc (.cells #[.int .i64 (m : Int)] 3)) (b := w.heap.size + 1 + 1) (by first | rfl | simp)) (.cells (madeCells #[.int .i64 0] n) 3)) (.cells #[.slice (some ⟨w.heap.size + 1 + 1 + 1, 0, none⟩) n n] 30)) (.cells #[.func (.func 66) #[] #[.pointer (some ⟨w.heap.size + 1 + 1, 0, none⟩), .pointer (some ⟨w.heap.size + 1, 0, none⟩), .pointer (some ⟨w.heap.size + 1 + 1 + 1 + 1, 0, none⟩), .pointer (some ⟨w.heap.size, 0, none⟩), .pointer (some ⟨w.heap.size + 1 + 1 + 1 + 1 + 1, 0, none⟩)]] 98)), (Blk.alloc (Blk.alloc (Blk.alloc (Blk.alloc (Blk.at_new (w.alloc (.cells #[.int .i64 W, .int .i64 E, .int .i64 T, .int .i64 J, .slice a n c] 32)) (b := w.heap.size + 1) (by first | rfl | simp)) (.cells #[.slice none 0 0] 89)) (.cells (madeCells #[.int .i64 0] n) 3)) (.cells #[.slice (some ⟨w.heap.size + 1 + 1 + 1, 0, none⟩) n n] 30)) (.cells #[.func (.func 66) #[] #[.pointer (some ⟨w.heap.size + 1 + 1, 0, none⟩), .pointer (some ⟨w.heap.size + 1, 0, none⟩), .pointer (some ⟨w.heap.size + 1 + 1 + 1 + 1, 0, none⟩), .pointer (some ⟨w.heap.size, 0, none⟩), .pointer (some ⟨w.heap.size + 1 + 1 + 1 + 1 + 1, 0, none⟩)]] 98)), (Blk.alloc (Blk.at_new ((((w.alloc (.cells #[.int .i64 W, .int .i64 E, .int .i64 T, .int .i64 J, .slice a n c] 32)).alloc (.cells #[.int .i64 (m : Int)] 3)).alloc (.cells #[.slice none 0 0] 89)).alloc (.cells (madeCells #[.int .i64 0] n) 3)) (b := w.heap.size + 1 + 1 + 1 + 1) (by first | rfl | simp)) (.cells #[.func (.func 66) #[] #[.pointer (some ⟨w.heap.size + 1 + 1, 0, none⟩), .pointer (some ⟨w.heap.size + 1, 0, none⟩), .pointer (some ⟨w.heap.size + 1 + 1 + 1 + 1, 0, none⟩), .pointer (some ⟨w.heap.size, 0, none⟩), .pointer (some ⟨w.heap.size + 1 + 1 + 1 + 1 + 1, 0, none⟩)]] 98)), (Blk.alloc (Blk.alloc (Blk.alloc (Blk.alloc (Blk.alloc (Blk.at_new w (b := w.heap.size) (by first | rfl | simp)) (.cells #[.int .i64 (m : Int)] 3)) (.cells #[.slice none 0 0] 89)) (.cells (madeCells #[.int .i64 0] n) 3)) (.cells #[.slice (some ⟨w.heap.size + 1 + 1 + 1, 0, none⟩) n n] 30)) (.cells #[.func (.func 66) #[] #[.pointer (some ⟨w.heap.size + 1 + 1, 0, none⟩), .pointer (some ⟨w.heap.size + 1, 0, none⟩), .pointer (some ⟨w.heap.size + 1 + 1 + 1 + 1, 0, none⟩), .pointer (some ⟨w.heap.size, 0, none⟩), .pointer (some ⟨w.heap.size + 1 + 1 + 1 + 1 + 1, 0, none⟩)]] 98)), (Blk.at_new (((((w.alloc (.cells #[.int .i64 W, .int .i64 E, .int .i64 T, .int .i64 J, .slice a n c] 32)).alloc (.cells #[.int .i64 (m : Int)] 3)).alloc (.cells #[.slice none 0 0] 89)).alloc (.cells (madeCells #[.int .i64 0] n) 3)).alloc (.cells #[.slice (some ⟨w.heap.size + 1 + 1 + 1, 0, none⟩) n n] 30)) (b := w.heap.size + 1 + 1 + 1 + 1 + 1) (by first | rfl | simp)), ?_, by simp [envL], ⟨[], own_nil _ _ _ _, PRow.nil _ _⟩, (Below.alloc (Below.alloc (Below.alloc (Below.alloc (Below.alloc (Below.alloc (Below.refl w.heap.size w) (by simp <;> omega) (.cells #[.int .i64 W, .int .i64 E, .int .i64 T, .int .i64 J, .slice a n c] 32)) (by simp <;> omega) (.cells #[.int .i64 (m : Int)] 3)) (by simp <;> omega) (.cells #[.slice none 0 0] 89)) (by simp <;> omega) (.cells (madeCells #[.int .i64 0] n) 3)) (by simp <;> omega) (.cells #[.slice (some ⟨w.heap.size + 1 + 1 + 1, 0, none⟩) n n] 30)) (by simp <;> omega) (.cells #[.func (.func 66) #[] #[.pointer (some ⟨w.heap.size + 1 + 1, 0, none⟩), .pointer (some ⟨w.heap.size + 1, 0, none⟩), .pointer (some ⟨w.heap.size + 1 + 1 + 1 + 1, 0, none⟩), .pointer (some ⟨w.heap.size, 0, none⟩), .pointer (some ⟨w.heap.size + 1 + 1 + 1 + 1 + 1, 0, none⟩)]] 98)), by simp [envL]⟩
  show Blk _ (w.heap.size + 1 + 1 + 1) _ _
  rw [List.nil_append, ← made_zeros]
  exact (Blk.alloc (Blk.alloc (Blk.at_new (((w.alloc (.cells #[.int .i64 W, .int .i64 E, .int .i64 T, .int .i64 J, .slice a n c] 32)).alloc (.cells #[.int .i64 (m : Int)] 3)).alloc (.cells #[.slice none 0 0] 89)) (b := w.heap.size + 1 + 1 + 1) (by first | rfl | simp)) (.cells #[.slice (some ⟨w.heap.size + 1 + 1 + 1, 0, none⟩) n n] 30)) (.cells #[.func (.func 66) #[] #[.pointer (some ⟨w.heap.size + 1 + 1, 0, none⟩), .pointer (some ⟨w.heap.size + 1, 0, none⟩), .pointer (some ⟨w.heap.size + 1 + 1 + 1 + 1, 0, none⟩), .pointer (some ⟨w.heap.size, 0, none⟩), .pointer (some ⟨w.heap.size + 1 + 1 + 1 + 1 + 1, 0, none⟩)]] 98))
set_option linter.unusedSimpArgs false in
set_option maxRecDepth 100000 in
set_option maxHeartbeats 8000000 in
theorem list_any (W E T J : Int) (a : Option Addr) (c n m : Nat) (zs : List Int) (w : World) (r : Rds Nn w 1 a n (ints zs)) (hn : n = zs.length) (hr : Right W E T J zs) (hm : m ≤ 100000) : Calls Try.prog 57 #[.agg #[.int .i64 W, .int .i64 E, .int .i64 T, .int .i64 J, .slice a n c], .int .i64 (m : Int)] w (NewPats w ((pats W E T J zs).take m)) := by
  have n8 : 1 ≤ n ∧ n ≤ 8 := by rw [hn]; exact hr.n
  have ub := us_pos hr
  have kb := hr.k
  have wb := hr.w
  have eb := hr.e
  have hmk := run_make_row' (P := Try.prog) 30 3 (.int .i64 0) 8 Try.underlying30 info3 rfl .i64 .i64 n (by omega) (by omega)
  have hmf : ∀ (fn : Fn) (first cap : Array Value) (w : World), (Instr.makeFunc fn first cap).run Try.prog w = .ok (.func fn first cap) w := fun _ _ _ _ => rfl
  have hst := fun (fn : Fn) (f c : Array Value) (w : World) (ad : Addr) => run_store Try.prog w ad (.func fn f c) .plain rfl
  have cD := (Blk.alloc (Blk.alloc (Blk.at_new w (b := w.heap.size) (t := 32) (cs := #[.int .i64 W, .int .i64 E, .int .i64 T, .int .i64 J, .slice a n c]) rfl) (.cells #[.int .i64 (m : Int)] 3)) (.cells #[.slice none 0 0] 89)).cell
  have OK := hid (envL_ok (c := c) r hn hr hm)
  have CS := hid (list_start W E T J a c n m zs w)
  clear r hn
  go_enter Try.func57, Try.ntmps57
  go_upto_region 5 with fail
  clear cD hmk hmf hst
  generalize ((((((w.alloc (.cells #[.int .i64 W, .int .i64 E, .int .i64 T, .int .i64 J, .slice a n c] 32)).alloc (.cells #[.int .i64 (m : Int)] 3)).alloc (.cells #[.slice none 0 0] 89)).alloc (.cells (madeCells #[.int .i64 0] n) 3)).alloc (.cells #[.slice (some ⟨w.heap.size + 1 + 1 + 1, 0, none⟩) n n] 30)).alloc (.cells #[.func (.func 66) #[] #[.pointer (some ⟨w.heap.size + 1 + 1, 0, none⟩), .pointer (some ⟨w.heap.size + 1, 0, none⟩), .pointer (some ⟨w.heap.size + 1 + 1 + 1 + 1, 0, none⟩), .pointer (some ⟨w.heap.size, 0, none⟩), .pointer (some ⟨w.heap.size + 1 + 1 + 1 + 1 + 1, 0, none⟩)]] 98)) = wa at CS ⊢
  refine wp_region_hand (fun w' => Blk w' (w.heap.size + 1 + 1 + 1 + 1 + 1) 98 #[.func (.func 66) #[] #[.pointer (some ⟨w.heap.size + 1 + 1, 0, none⟩), .pointer (some ⟨w.heap.size + 1, 0, none⟩), .pointer (some ⟨w.heap.size + 1 + 1 + 1 + 1, 0, none⟩), .pointer (some ⟨w.heap.size, 0, none⟩), .pointer (some ⟨w.heap.size + 1 + 1 + 1 + 1 + 1, 0, none⟩)]] ∧ Blk w' w.heap.size 32 #[.int .i64 W, .int .i64 E, .int .i64 T, .int .i64 J, .slice a n c]) (by kernel_rfl) ?_
  simp only [List.length_cons, List.length_nil, Nat.zero_add, Nat.reduceAdd]
  have hS : Blk wa.drew (w.heap.size + 1 + 1 + 1 + 1 + 1) 98 #[.func (.func 66) #[] #[.pointer (some ⟨w.heap.size + 1 + 1, 0, none⟩), .pointer (some ⟨w.heap.size + 1, 0, none⟩), .pointer (some ⟨w.heap.size + 1 + 1 + 1 + 1, 0, none⟩), .pointer (some ⟨w.heap.size, 0, none⟩), .pointer (some ⟨w.heap.size + 1 + 1 + 1 + 1 + 1, 0, none⟩)]] ∧ Blk wa.drew w.heap.size 32 #[.int .i64 W, .int .i64 E, .int .i64 T, .int .i64 J, .slice a n c] := ⟨CS.out.f, CS.out.d⟩
  refine take_at (i := 0) (v := ?_) rfl rfl (by kernel_rfl) (by kernel_rfl) (by kernel_rfl) (fun _ _ _ h => h) (Or.inl ⟨by rfl, ?_⟩) hS ?_
  rotate_left
  · intro wi hSw; have ci0 := hSw.1.cell; go_simp; try with_reducible rfl
  try simp only [List.setIfInBounds_toArray, List.set_cons_zero, List.set_cons_succ]
  refine take_at (i := 1) (v := ?_) rfl rfl (by kernel_rfl) (by kernel_rfl) (by kernel_rfl) (fun _ _ _ h => h) (Or.inl ⟨by rfl, ?_⟩) hS ?_
  rotate_left
  · intro w hSw; (try dsimp only at hSw); go_simp; try with_reducible rfl
  try simp only [List.setIfInBounds_toArray, List.set_cons_zero, List.set_cons_succ]
  refine take_at (i := 2) (v := ?_) rfl rfl (by kernel_rfl) (by kernel_rfl) (by kernel_rfl) (fun _ _ _ h => h) (Or.inl ⟨by rfl, ?_⟩) hS ?_
  rotate_left
  · intro wi hSw; have ci0 := hSw.2.cell; go_simp; try with_reducible rfl
  try simp only [List.setIfInBounds_toArray, List.set_cons_zero, List.set_cons_succ]
  refine take_at (i := 3) (v := .agg #[.int .i64 W, .int .i64 E, .int .i64 T, .int .i64 J, .slice a n c]) rfl rfl (by kernel_rfl) (by kernel_rfl) (by kernel_rfl) (fun _ _ _ h => h) (Or.inl ⟨by rfl, fun wi hSw => exec_loads (p := .pointer (some ⟨w.heap.size, 0, none⟩)) rfl rfl (load_blk hSw.2 Try.underlying32 rfl (by kernel_rfl))⟩) hS ?_
  try simp only [List.setIfInBounds_toArray, List.set_cons_zero, List.set_cons_succ]
  refine wpAnyH_ready (rs := [4]) (by kernel_rfl) (by simp) ?_
  refine AllReadyH.cons rfl (fun K hK => ?_) AllReadyH.nil
  go_simp
  (go_at_call 60; refine (usable_any W E T J _ _ (by omega) (by omega)).mono ?_; rintro e w1 ⟨rfl, hb⟩; have CS1 := hid (CS.out.below (show Below wa.heap.size wa w1 from (Below.drew (Below.refl _ _)).trans hb)); clear hb hS)
  refine hK.out _ _ ⟨CS1.out.f, CS1.out.d⟩ (fun hS => ?_)
  clear hK K
  try simp only [Act.put, List.setIfInBounds_toArray, List.set_cons_zero, List.set_cons_succ]
  refine wpAnyH_ready (rs := [5]) (by kernel_rfl) (by simp) ?_
  refine AllReadyH.cons rfl (fun K hK => ?_) AllReadyH.nil
  go_simp
  (refine (comp_any (envL W E T J a c n m zs w) OK.out n 0 0 [] J (us W E) (.slice none 0 0) [] _ rfl (Nat.zero_add n) rfl (by omega) (by omega) (by omega) (by omega) (Nat.zero_le _) CS1.out).mono ?_; rintro e w2 ⟨rfl, v2, hc2⟩; have CS2 := hid hc2; clear hc2 hS)
  refine hK.out _ _ ⟨CS2.out.f, CS2.out.d⟩ (fun hS => ?_)
  clear hK K
  try simp only [Act.put, List.setIfInBounds_toArray, List.set_cons_zero, List.set_cons_succ]
  refine wpAnyH_done (by kernel_rfl) ?_ _
  simp only [Sure, Exit.then]
  clear hS
  have cO : ∀ i, w2.cell? ⟨w.heap.size + 1 + 1, i, none⟩ = (#[v2] : Array Value)[i]? := CS2.out.o.cell
  go_wp2_with fail
  go_ret
  obtain ⟨vs, hv, hp⟩ := CS2.out.row
  refine ⟨v2, vs, rfl, ?_, ?_, CS2.out.bel⟩
  · have := own_base_le hv (base' := w.heap.size) (by simp [envL]; omega)
    simpa [ext_nil, pats, envL] using this
  · have := hp.mono (S' := Nn) (fun _ _ h => h.elim)
    simpa [ext_nil, pats, envL] using this
end Go.Proofs.Ytccgbojcghbdcaa
