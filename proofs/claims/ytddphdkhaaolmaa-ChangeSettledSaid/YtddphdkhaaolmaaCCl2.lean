/- Closed loops: the simulation's beginning and its steps. -/
import Derived.Test.YtddphdkhaaolmaaCCl1
namespace Go.Proofs.Ytddphdkhaaolmaa
open Go.RowKit

/-- The state of a simulation: output, last error, value, what the line keeps. -/
structure SS where
  out : Int
  last : Int
  v : Int
  xs : List Int
/-- A step of a simulation. -/
def nx (kp ki sh lo hi rate ga la : Int) (s : SS) (x d : Int) : SS :=
  ⟨Ct.stepOut kp ki sh lo hi rate s.out s.last x s.v, x - s.v, s.v + ((tgt ga (outOf s.xs (Ct.stepOut kp ki sh lo hi rate s.out s.last x s.v)) - s.v) / la + d), pushOf s.xs (Ct.stepOut kp ki sh lo hi rate s.out s.last x s.v)⟩
/-- What holds of every state of a simulation. -/
structure Inv (lo hi la : Int) (D : Nat) (s : SS) : Prop where
  out : lo ≤ s.out ∧ s.out ≤ hi
  last : -67108864 ≤ s.last ∧ s.last ≤ 67108864
  v : -16777216 - 65536 * la ≤ s.v ∧ s.v ≤ 16777216 + 65536 * la
  len : s.xs.length = D
  xs : ∀ n ∈ s.xs, lo ≤ n ∧ n ≤ hi
/-- A loop at block L. -/
structure LSt (w : World) (L b lb : Nat) (lv : Value) (kp ki sh lo hi rate ga la : Int) (D : Nat) (s : SS) : Prop where
  blk : Blk w L 140 #[.pointer (some ⟨b, 0, none⟩), .int .i64 kp, .int .i64 ki, .int .i64 sh, .int .i64 lo, .int .i64 hi, .int .i64 rate, .int .i64 s.out, .int .i64 s.last]
  p : PSt w b ga la (D : Int) s.v lb lv s.xs
  ap : ¬ Fs b lb lv L
def Fl (L b lb : Nat) (lv : Value) : Nat → Prop := fun k => k = L ∨ Fs b lb lv k
section
variable {w w' : World} {L b lb : Nat} {lv : Value} {kp ki sh lo hi rate ga la : Int} {D : Nat} {s : SS}
theorem LSt.lt (h : LSt w L b lb lv kp ki sh lo hi rate ga la D s) : ∀ k, Fl L b lb lv k → k < w.heap.size := by
  intro k hk
  rcases hk with rfl | hk
  · exact h.blk.lt
  · exact h.p.lt k hk
theorem LSt.keep {S : Nat → Prop} (h : LSt w L b lb lv kp ki sh lo hi rate ga la D s) (hc : Chg S w w') (hn : ∀ k, Fl L b lb lv k → ¬ S k) : LSt w' L b lb lv kp ki sh lo hi rate ga la D s :=
  ⟨h.blk.keep hc (hn L (.inl rfl)), h.p.keep hc (fun k hk => hn k (.inr hk)), h.ap⟩
theorem LSt.below (h : LSt w L b lb lv kp ki sh lo hi rate ga la D s) (hc : Below w.heap.size w w') : LSt w' L b lb lv kp ki sh lo hi rate ga la D s :=
  h.keep (Chg.of_below (S := Nn) hc (fun k h1 h2 => by omega)) (fun _ _ => id)
theorem LSt.drew (h : LSt w L b lb lv kp ki sh lo hi rate ga la D s) : LSt w.drew L b lb lv kp ki sh lo hi rate ga la D s := h.keep ((Chg.refl Nn _).drew) (fun _ _ => id)
theorem step_in (hc : Ct.chk kp ki sh lo hi rate = 0) (o l x v : Int) : lo ≤ Ct.stepOut kp ki sh lo hi rate o l x v ∧ Ct.stepOut kp ki sh lo hi rate o l x v ≤ hi := by
  have := (Ct.chk_ok hc).2.2.2.2.2.2
  unfold Ct.stepOut Ct.clampI
  omega
/-- Values between bounds. -/
theorem keep_gen {la A B W v T d : Int} (hla : 1 ≤ la) (hT : A ≤ T ∧ T ≤ B) (hd : -W ≤ d ∧ d ≤ W) (hv : A - W * la ≤ v ∧ v ≤ B + W * la) : A - W * la ≤ v + ((T - v) / la + d) ∧ v + ((T - v) / la + d) ≤ B + W * la := by
  have e1 : (A - W * la - v) / la = (A - v) / la - W := by
    rw [show A - W * la - v = (A - v) + (-W) * la by rw [Int.neg_mul]; omega, Int.add_mul_ediv_right _ _ (by omega)]; omega
  have e2 : (B + W * la - v) / la = (B - v) / la + W := by
    rw [show B + W * la - v = (B - v) + W * la by omega, Int.add_mul_ediv_right _ _ (by omega)]
  have l1 : (A - v) / la ≤ (T - v) / la := Int.ediv_le_ediv (by omega) (by omega)
  have l2 : (T - v) / la ≤ (B - v) / la := Int.ediv_le_ediv (by omega) (by omega)
  have k1 := (mid (v := v) (t := A - W * la) hla).2 hv.1
  have k2 := (mid (v := v) (t := B + W * la) hla).1 hv.2
  rw [e1] at k1
  rw [e2] at k2
  omega
theorem out_in {xs : List Int} {x : Int} (h : ∀ n ∈ xs, lo ≤ n ∧ n ≤ hi) (hx : lo ≤ x ∧ x ≤ hi) : lo ≤ outOf xs x ∧ outOf xs x ≤ hi := by
  rcases xs with _ | ⟨y, ys⟩
  · simpa [outOf] using hx
  · simpa [outOf] using h y (by simp)
theorem push_in {xs : List Int} {x : Int} (h : ∀ n ∈ xs, lo ≤ n ∧ n ≤ hi) (hx : lo ≤ x ∧ x ≤ hi) : ∀ n ∈ pushOf xs x, lo ≤ n ∧ n ≤ hi := by
  intro n hn
  rcases List.mem_append.1 (List.mem_of_mem_tail hn) with h1 | h1
  · exact h n h1
  · simp at h1; omega
theorem Inv.vb (h : Inv lo hi la D s) (hc : chkP ga la (D : Int) = 0) : -33554432 ≤ s.v ∧ s.v ≤ 33554432 := by
  have := chkP_ok hc
  have := h.v
  omega
theorem Inv.next {x d : Int} (h : Inv lo hi la D s) (hc : chkC kp ki sh lo hi rate ga la (D : Int) = 0) (hx : absB x 16777216 = true) (hd : -65536 ≤ d ∧ d ≤ 65536) : Inv lo hi la D (nx kp ki sh lo hi rate ga la s x d) := by
  obtain ⟨h1, h2, h3, h4⟩ := chkC_ok hc
  have hv := h.vb h2
  have hx := absB_true hx
  have so := step_in h1 s.out s.last x s.v
  have oi := out_in h.xs so
  have ck := chkP_ok h2
  have t1 := tgt_mono (ga := ga) ck.1 oi.1
  have t2 := tgt_mono (ga := ga) ck.1 oi.2
  have a1 := absB_true h3
  have a2 := absB_true h4
  refine ⟨so, ?_, keep_gen ck.2.2.1 (by omega) hd h.v, by simp [nx, pushOf, h.len], push_in h.xs so⟩
  simp only [nx]
  omega
end
def okB (lo hi out v : Int) : Bool := absB v 16777216 && Ct.inB out lo hi
theorem begin_bad (kp ki sh lo hi rate ga la out v : Int) (D : Nat) (w : World) (hc : chkC kp ki sh lo hi rate ga la (D : Int) = 0) (hb : okB lo hi out v = false) : Calls Try.prog 68 #[.agg #[.int .i64 kp, .int .i64 ki, .int .i64 sh, .int .i64 lo, .int .i64 hi, .int .i64 rate, .int .i64 ga, .int .i64 la, .int .i64 ((D : Int))], .int .i64 out, .int .i64 v] w fun e w' => e = .returned (.tuple #[.pointer none, .bool false]) ∧ Below w.heap.size w w' := by
  obtain ⟨h1, h2, h3, h4⟩ := chkC_ok hc
  cases hs : absB v 16777216
  · clear hb hc
    go_enter Try.func68, Try.ntmps68
    go_wp2_with (go_at_call 66; refine (signal_any _ _).mono ?_; rintro e v9 ⟨rfl, rfl⟩)
    go_ret2
    exact ⟨rfl, (Below.refl _ _).alloc (by simp) _⟩
  · have hi2 : Ct.inB out lo hi = false := by simpa [okB, hs] using hb
    have se : Ct.startErr kp ki sh lo hi rate out = 1 := by simp [Ct.startErr, h1, hi2]
    have SE := hid se
    clear hb hc se
    go_enter Try.func68, Try.ntmps68
    go_wp2_with (go_at_call 66; refine (signal_any _ _).mono ?_; rintro e v9 ⟨rfl, rfl⟩)
    refine (Ct.start_any _ _ _ _ _ _ _ _).mono ?_
    rintro e w1 ⟨rfl, hb⟩
    have B1 := hid (((Below.refl w.heap.size w).alloc (by simp) _).trans (hb.mono (by simp)))
    unfold Ct.startRes
    rw [SE.out]
    clear hb
    go_wp2
    go_ret2
    exact ⟨rfl, Below.alloc B1.out B1.out.size _⟩
theorem begin_ok (kp ki sh lo hi rate ga la out v : Int) (D : Nat) (w : World) (hc : chkC kp ki sh lo hi rate ga la (D : Int) = 0) (hb : okB lo hi out v = true) : Calls Try.prog 68 #[.agg #[.int .i64 kp, .int .i64 ki, .int .i64 sh, .int .i64 lo, .int .i64 hi, .int .i64 rate, .int .i64 ga, .int .i64 la, .int .i64 ((D : Int))], .int .i64 out, .int .i64 v] w fun e w' => ∃ L b lb lv, e = .returned (.tuple #[.pointer (some ⟨L, 0, none⟩), .bool true]) ∧ LSt w' L b lb lv kp ki sh lo hi rate ga la D ⟨out, 0, v, List.replicate D out⟩ ∧ (∀ k, Fl L b lb lv k → w.heap.size ≤ k) ∧ Below w.heap.size w w' := by
  obtain ⟨h1, h2, h3, h4⟩ := chkC_ok hc
  obtain ⟨hs, hi2⟩ := Bool.and_eq_true_iff.1 hb
  have se : Ct.startErr kp ki sh lo hi rate out = 0 := by simp [Ct.startErr, h1, hi2]
  have ob := Ct.inB_true hi2
  have vb := absB_true hs
  have ck := Ct.chk_ok h1
  have ne : newErr ga la (D : Int) out v = 0 := by unfold newErr; rw [if_neg (by omega), absB_mk (n := out) (m := 16777216) (by omega) (by omega), absB_mk (n := v) (m := 268435456) (by omega) (by omega)]; rfl
  have SE := hid se
  have NE := hid ne
  clear hb hc se ne
  go_enter Try.func68, Try.ntmps68
  go_wp2_with (go_at_call 66; refine (signal_any _ _).mono ?_; rintro e v9 ⟨rfl, rfl⟩)
  refine (Ct.start_any _ _ _ _ _ _ _ _).mono ?_
  rintro e w1 ⟨rfl, hb⟩
  have C1 : Hid (Blk w1 w.heap.size 27 #[.int .i64 kp, .int .i64 ki, .int .i64 sh, .int .i64 lo, .int .i64 hi, .int .i64 rate, .int .i64 ga, .int .i64 la, .int .i64 ((D : Int))]) := hid (Blk.below (Blk.at_new _ (by simp)) hb (by simp))
  have B1 := hid (((Below.refl w.heap.size w).alloc (by simp) _).trans (hb.mono (by simp)))
  unfold Ct.startRes
  rw [SE.out, if_pos rfl]
  clear hb
  have cC := C1.out.cell
  have cC2 : ∀ (o : Obj) (i : Nat), (w1.alloc o).cell? ⟨w.heap.size, i, none⟩ = (#[.int .i64 kp, .int .i64 ki, .int .i64 sh, .int .i64 lo, .int .i64 hi, .int .i64 rate, .int .i64 ga, .int .i64 la, .int .i64 ((D : Int))] : Array Value)[i]? := fun o => (C1.out.alloc o).cell
  go_wp2_with fail
  refine (pnew_any _ _ _ _ _ _ NE.out).mono ?_
  rintro e w2 ⟨b, lb, lv, rfl, hp, hpg, hb⟩
  have hp2 : PSt w2 b ga la (D : Int) v lb lv (List.replicate D out) := by simpa using hp
  have P2 := hid hp2
  have C2 := hid (Blk.below (Blk.alloc C1.out _) hb (Blk.lt (Blk.alloc C1.out _)))
  have N2 : Hid (Blk w2 w1.heap.size 127 #[.int .i64 out, .int .i64 0]) := hid (Blk.below (Blk.at_new _ rfl) hb (by simp))
  have B2 := hid ((Below.alloc B1.out B1.out.size _).trans (hb.mono (Nat.le_trans B1.out.size (by simp))))
  have PG := hid hpg
  clear hp hp2 hpg hb cC cC2
  have c2 := C2.out.cell
  have n2 := N2.out.cell
  go_wp2
  go_ret2
  refine ⟨w2.heap.size, b, lb, lv, rfl, ⟨Blk.at_new _ rfl, P2.out.keep ((Chg.refl Nn _).alloc _) (fun _ _ => id), fun hk => Nat.lt_irrefl _ (P2.out.lt _ hk)⟩, fun k hk => ?_, Below.alloc B2.out B2.out.size _⟩
  rcases hk with rfl | hk
  · exact B2.out.size
  · exact Nat.le_trans B1.out.size (Nat.le_trans (by simp) (PG.out k hk))
set_option linter.unusedSimpArgs false in
set_option maxRecDepth 100000 in
set_option maxHeartbeats 4000000 in
theorem next_any {L b lb : Nat} {lv : Value} {kp ki sh lo hi rate ga la : Int} {D : Nat} {s : SS} (x d : Int) (w : World) (h : LSt w L b lb lv kp ki sh lo hi rate ga la D s) (hc : chkC kp ki sh lo hi rate ga la (D : Int) = 0) (hi' : Inv lo hi la D s) (hx : absB x 16777216 = true) (hd : -65536 ≤ d ∧ d ≤ 65536) : Calls Try.prog 69 #[.pointer (some ⟨L, 0, none⟩), .int .i64 x, .int .i64 d] w fun e w' => e = .returned (.agg #[.int .i64 x, .int .i64 (nx kp ki sh lo hi rate ga la s x d).out, .int .i64 (nx kp ki sh lo hi rate ga la s x d).v]) ∧ LSt w' L b lb lv kp ki sh lo hi rate ga la D (nx kp ki sh lo hi rate ga la s x d) ∧ Chg (Fl L b lb lv) w w' := by
  obtain ⟨h1, h2, h3, h4⟩ := chkC_ok hc
  have se : Ct.stepErr kp ki sh lo hi rate s.out s.last x s.v = 0 := by
    have vb := hi'.vb h2
    have xb := absB_true hx
    unfold Ct.stepErr
    rw [if_neg (by omega), Ct.inB_mk hi'.out.1 hi'.out.2, Ct.inB_mk hi'.last.1 hi'.last.2, Ct.inB_mk (n := x) (lo := -33554432) (hi := 33554432) (by omega) (by omega), Ct.inB_mk vb.1 vb.2]
    rfl
  have sr : Ct.stepRes kp ki sh lo hi rate s.out s.last x s.v = .tuple #[.agg #[.int .i64 (nx kp ki sh lo hi rate ga la s x d).out, .int .i64 (nx kp ki sh lo hi rate ga la s x d).last], .int .i64 0] := by
    unfold Ct.stepRes
    rw [se, if_pos rfl, if_pos rfl]
    rfl
  have SR := hid sr
  have so := step_in (hi := hi) h1 s.out s.last x s.v
  have ck := Ct.chk_ok h1
  have so2 : absB (nx kp ki sh lo hi rate ga la s x d).out 16777216 = true := absB_mk (by have := so.1; simp only [nx]; omega) (by have := so.2; simp only [nx]; omega)
  have SO := hid so2
  have vb := hi'.vb h2
  have okl : OkL s.xs := fun n hn => by have := hi'.xs n hn; omega
  have OK := hid okl
  have LEN := hid hi'.len
  have D32 := (chkP_ok h2).2.2.2.2.2
  have sv : s.v + ((tgt ga (outOf s.xs (nx kp ki sh lo hi rate ga la s x d).out) - s.v) / la + d) = (nx kp ki sh lo hi rate ga la s x d).v := rfl
  have SV := hid sv
  have sx : pushOf s.xs (nx kp ki sh lo hi rate ga la s x d).out = (nx kp ki sh lo hi rate ga la s x d).xs := rfl
  have SX := hid sx
  clear se sr so ck so2 okl h3 h4 hi' sv sx
  obtain ⟨t, ht⟩ : ∃ t, nx kp ki sh lo hi rate ga la s x d = t := ⟨_, rfl⟩
  rw [ht] at SR SO SV SX
  rw [ht]
  have H := hid h
  have L0 := h.blk.lt
  clear h ht
  have cL : ∀ (o : Obj) (i : Nat), (w.alloc o).cell? ⟨L, i, none⟩ = (#[.pointer (some ⟨b, 0, none⟩), .int .i64 kp, .int .i64 ki, .int .i64 sh, .int .i64 lo, .int .i64 hi, .int .i64 rate, .int .i64 s.out, .int .i64 s.last] : Array Value)[i]? := fun o => (H.out.blk.alloc o).cell
  go_enter Try.func69, Try.ntmps69
  go_wp2_with fail
  refine wp_region_held_drew (S := (fun w' => w'.cell? ⟨L, 0, none⟩ = some (.pointer (some ⟨b, 0, none⟩)) ∧ w'.cell? ⟨L, 1, none⟩ = some (.int .i64 kp) ∧ w'.cell? ⟨L, 2, none⟩ = some (.int .i64 ki) ∧ w'.cell? ⟨L, 3, none⟩ = some (.int .i64 sh) ∧ w'.cell? ⟨L, 4, none⟩ = some (.int .i64 lo) ∧ w'.cell? ⟨L, 5, none⟩ = some (.int .i64 hi) ∧ w'.cell? ⟨L, 6, none⟩ = some (.int .i64 rate))) (by kernel_rfl) ⟨cL _ 0, cL _ 1, cL _ 2, cL _ 3, cL _ 4, cL _ 5, cL _ 6⟩ (fun hS => ?_)
  refine take_at (i := 0) (v := ?_) rfl rfl (by kernel_rfl) (by kernel_rfl) (by kernel_rfl) (fun _ _ _ h => h) (Or.inl ⟨by rfl, ?_⟩) hS ?_
  rotate_left
  · intro w hSw; (try dsimp only at hSw); go_simp; try with_reducible rfl
  try simp only [List.setIfInBounds_toArray, List.set_cons_zero, List.set_cons_succ]
  refine take_at (i := 1) (v := ?_) rfl rfl (by kernel_rfl) (by kernel_rfl) (by kernel_rfl) (fun _ _ _ h => h) (Or.inl ⟨by rfl, ?_⟩) hS ?_
  rotate_left
  · intro w hSw; (try dsimp only at hSw); go_simp; try with_reducible rfl
  try simp only [List.setIfInBounds_toArray, List.set_cons_zero, List.set_cons_succ]
  refine take_at (i := 2) (v := ?_) rfl rfl (by kernel_rfl) (by kernel_rfl) (by kernel_rfl) (fun _ _ _ h => h) (Or.inl ⟨by rfl, ?_⟩) hS ?_
  rotate_left
  · intro w hSw; (try dsimp only at hSw); go_simp; try with_reducible rfl
  try simp only [List.setIfInBounds_toArray, List.set_cons_zero, List.set_cons_succ]
  refine take_at (i := 3) (v := ?_) rfl rfl (by kernel_rfl) (by kernel_rfl) (by kernel_rfl) (fun _ _ _ h => h) (Or.inl ⟨by rfl, ?_⟩) hS ?_
  rotate_left
  · intro w hSw; (try dsimp only at hSw); go_simp; try with_reducible rfl
  try simp only [List.setIfInBounds_toArray, List.set_cons_zero, List.set_cons_succ]
  refine take_at (i := 4) (v := ?_) rfl rfl (by kernel_rfl) (by kernel_rfl) (by kernel_rfl) (fun _ _ _ h => h) (Or.inl ⟨by rfl, ?_⟩) hS ?_
  rotate_left
  · intro w hSw; (try dsimp only at hSw); go_simp; try with_reducible rfl
  try simp only [List.setIfInBounds_toArray, List.set_cons_zero, List.set_cons_succ]
  refine take_at (i := 5) (v := ?_) rfl rfl (by kernel_rfl) (by kernel_rfl) (by kernel_rfl) (fun _ _ _ h => h) (Or.inl ⟨by rfl, ?_⟩) hS ?_
  rotate_left
  · intro w hSw; (try dsimp only at hSw); go_simp; try with_reducible rfl
  try simp only [List.setIfInBounds_toArray, List.set_cons_zero, List.set_cons_succ]
  refine take_at (i := 6) (v := ?_) rfl rfl (by kernel_rfl) (by kernel_rfl) (by kernel_rfl) (fun _ _ _ h => h) (Or.inl ⟨by rfl, ?_⟩) hS ?_
  rotate_left
  · intro w hSw; (try dsimp only at hSw); go_simp; try with_reducible rfl
  try simp only [List.setIfInBounds_toArray, List.set_cons_zero, List.set_cons_succ]
  refine take_at (i := 7) (v := ?_) rfl rfl (by kernel_rfl) (by kernel_rfl) (by kernel_rfl) (fun _ _ _ h => h) (Or.inl ⟨by rfl, ?_⟩) hS ?_
  rotate_left
  · intro w hSw; (try dsimp only at hSw); go_simp; try with_reducible rfl
  try simp only [List.setIfInBounds_toArray, List.set_cons_zero, List.set_cons_succ]
  refine take_at (i := 9) (v := ?_) rfl rfl (by kernel_rfl) (by kernel_rfl) (by kernel_rfl) (fun _ _ _ h => h) (Or.inl ⟨by rfl, ?_⟩) hS ?_
  rotate_left
  · intro w hSw; (try dsimp only at hSw); go_simp; try with_reducible rfl
  try simp only [List.setIfInBounds_toArray, List.set_cons_zero, List.set_cons_succ]
  refine take_at (i := 10) (v := ?_) rfl rfl (by kernel_rfl) (by kernel_rfl) (by kernel_rfl) (fun _ _ _ h => h) (Or.inl ⟨by rfl, ?_⟩) hS ?_
  rotate_left
  · intro w hSw; (try dsimp only at hSw); go_simp; try with_reducible rfl
  try simp only [List.setIfInBounds_toArray, List.set_cons_zero, List.set_cons_succ]
  refine take_at (i := 11) (v := ?_) rfl rfl (by kernel_rfl) (by kernel_rfl) (by kernel_rfl) (fun _ _ _ h => h) (Or.inl ⟨by rfl, ?_⟩) hS ?_
  rotate_left
  · intro w hSw; (try dsimp only at hSw); go_simp; try with_reducible rfl
  try simp only [List.setIfInBounds_toArray, List.set_cons_zero, List.set_cons_succ]
  refine take_at (i := 12) (v := ?_) rfl rfl (by kernel_rfl) (by kernel_rfl) (by kernel_rfl) (fun _ _ _ h => h) (Or.inl ⟨by rfl, ?_⟩) hS ?_
  rotate_left
  · intro w hSw; (try dsimp only at hSw); go_simp; try with_reducible rfl
  try simp only [List.setIfInBounds_toArray, List.set_cons_zero, List.set_cons_succ]
  refine take_at (i := 13) (v := ?_) rfl rfl (by kernel_rfl) (by kernel_rfl) (by kernel_rfl) (fun _ _ _ h => h) (Or.inl ⟨by rfl, ?_⟩) hS ?_
  rotate_left
  · intro w hSw; (try dsimp only at hSw); go_simp; try with_reducible rfl
  try simp only [List.setIfInBounds_toArray, List.set_cons_zero, List.set_cons_succ]
  refine wpAnyH_ready (rs := [8, 14]) (by kernel_rfl) (by simp) ?_
  refine AllReadyH.cons (o := { dst := some 18, op := Op.load 127 (Operand.tmp 17), type := 127, pos := "closed.go:54", after := #[{ on := 7, ground := Ground.data }], guard := none }) rfl (fun K hK => ?_) (AllReadyH.cons (o := { dst := some 24, op := Op.call { callee := Callee.value (Operand.func 95), args := #[Operand.tmp 23], argTypes := #[136] }, type := 3, pos := "closed.go:54", after := #[{ on := 13, ground := Ground.data }], guard := none }) rfl (fun K hK => ?_) AllReadyH.nil)
  · go_simp
    refine hK.out _ _ hS (fun hS => ?_)
    clear hK K
    try simp only [Act.put, List.setIfInBounds_toArray, List.set_cons_zero, List.set_cons_succ]
    refine wpAnyH_ready (rs := [14]) (by kernel_rfl) (by simp) ?_
    refine AllReadyH.cons (o := { dst := some 24, op := Op.call { callee := Callee.value (Operand.func 95), args := #[Operand.tmp 23], argTypes := #[136] }, type := 3, pos := "closed.go:54", after := #[{ on := 13, ground := Ground.data }], guard := none }) rfl (fun K hK => ?_) AllReadyH.nil
    go_simp
    (go_at_call 95; refine (pval_any _ (H.out.below ((Below.refl _ _).alloc (Nat.le_refl _) _)).p.drew).mono ?_; rintro e w2 ⟨rfl, rfl⟩)
    refine hK.out _ _ hS (fun hS => ?_)
    clear hK K
    try simp only [Act.put, List.setIfInBounds_toArray, List.set_cons_zero, List.set_cons_succ]
    refine wpAnyH_ready (rs := [15]) (by kernel_rfl) (by simp) ?_
    refine AllReadyH.cons rfl (fun K hK => ?_) AllReadyH.nil
    go_simp
    refine (Ct.step_any _ _ _ _ _ _ _ _ _ _ _).mono ?_
    rintro e w3 ⟨rfl, hb⟩
    rw [SR.out]
    have HB := hid (((Below.refl w.heap.size w).alloc (Nat.le_refl _) (.cells #[.int .i64 0, .int .i64 0, .int .i64 0] 94)).drew.trans (hb.mono (by simp)))
    have H3 := hid (H.out.below HB.out)
    have R3 : Hid (Blk w3 w.heap.size 94 #[.int .i64 0, .int .i64 0, .int .i64 0]) := hid (Blk.below (Blk.drew (Blk.at_new _ rfl)) hb (by simp))
    clear hS hb
    refine hK.out _ _ ⟨H3.out.blk.cell 0, H3.out.blk.cell 1, H3.out.blk.cell 2, H3.out.blk.cell 3, H3.out.blk.cell 4, H3.out.blk.cell 5, H3.out.blk.cell 6⟩ (fun hS => ?_)
    clear hK K
    try simp only [Act.put, List.setIfInBounds_toArray, List.set_cons_zero, List.set_cons_succ]
    refine take_at (i := 16) (v := ?_) rfl rfl (by kernel_rfl) (by kernel_rfl) (by kernel_rfl) (fun _ _ _ h => h) (Or.inl ⟨by rfl, ?_⟩) hS ?_
    rotate_left
    · intro w hSw; (try dsimp only at hSw); go_simp; try with_reducible rfl
    try simp only [List.setIfInBounds_toArray, List.set_cons_zero, List.set_cons_succ]
    refine take_at (i := 17) (v := ?_) rfl rfl (by kernel_rfl) (by kernel_rfl) (by kernel_rfl) (fun _ _ _ h => h) (Or.inl ⟨by rfl, ?_⟩) hS ?_
    rotate_left
    · intro w hSw; (try dsimp only at hSw); go_simp; try with_reducible rfl
    try simp only [List.setIfInBounds_toArray, List.set_cons_zero, List.set_cons_succ]
    refine take_at (i := 18) (v := ?_) rfl rfl (by kernel_rfl) (by kernel_rfl) (by kernel_rfl) (fun _ _ _ h => h) (Or.inl ⟨by rfl, ?_⟩) hS ?_
    rotate_left
    · intro w hSw; (try dsimp only at hSw); go_simp; try with_reducible rfl
    try simp only [List.setIfInBounds_toArray, List.set_cons_zero, List.set_cons_succ]
    refine take_at (i := 19) (v := ?_) rfl rfl (by kernel_rfl) (by kernel_rfl) (by kernel_rfl) (fun _ _ _ h => h) (Or.inl ⟨by rfl, ?_⟩) hS ?_
    rotate_left
    · intro w hSw; (try dsimp only at hSw); go_simp; try with_reducible rfl
    try simp only [List.setIfInBounds_toArray, List.set_cons_zero, List.set_cons_succ]
    refine take_at (i := 20) (v := ?_) rfl rfl (by kernel_rfl) (by kernel_rfl) (by kernel_rfl) (fun _ _ _ h => h) (Or.inl ⟨by rfl, ?_⟩) hS ?_
    rotate_left
    · intro w hSw; (try dsimp only at hSw); go_simp; try with_reducible rfl
    try simp only [List.setIfInBounds_toArray, List.set_cons_zero, List.set_cons_succ]
    have c3 := H3.out.blk.cell
    have f3 := H3.out.blk.frozen
    refine wpAnyH_ready (rs := [21]) (by kernel_rfl) (by simp) ?_
    refine AllReadyH.cons rfl (fun K hK => ?_) AllReadyH.nil
    go_simp
    clear hS c3 f3
    have B4 := hid ((H3.out.blk.set 7 (.int .i64 t.out)).set 8 (.int .i64 t.last))
    have P4 := hid (H3.out.p.keep (((Chg.refl (fun k => k = L) w3).setCell (a := ⟨L, 7, none⟩) (.inl rfl) (.int .i64 t.out)).setCell (a := ⟨L, 8, none⟩) (.inl rfl) (.int .i64 t.last)) (fun k hk e => by subst e; exact H3.out.ap hk))
    have C4 := hid ((((Chg.of_below (S := fun k => k = L) HB.out (fun k k1 k2 => by omega)).setCell (a := ⟨L, 7, none⟩) (.inl rfl) (.int .i64 t.out)).setCell (a := ⟨L, 8, none⟩) (.inl rfl) (.int .i64 t.last)))
    have R4 := hid ((R3.out.other (a := ⟨L, 7, none⟩) (by have := L0; simp; omega) (.int .i64 t.out)).other (a := ⟨L, 8, none⟩) (by have := L0; simp; omega) (.int .i64 t.last))
    generalize (w3.setCell ⟨L, 7, none⟩ (.int .i64 t.out)).setCell ⟨L, 8, none⟩ (.int .i64 t.last) = w4 at B4 P4 C4 R4 ⊢
    have c4 := B4.out.cell
    simp only [List.setIfInBounds_toArray, List.set_cons_zero, List.set_cons_succ] at c4
    refine hK.out _ _ ⟨c4 0, c4 1, c4 2, c4 3, c4 4, c4 5, c4 6⟩ (fun hS => ?_)
    clear hK K hS
    try simp only [Act.put, List.setIfInBounds_toArray, List.set_cons_zero, List.set_cons_succ]
    refine wpAnyH_done (by kernel_rfl) ?_ _
    go_wp2_with fail
    have hd2 : absB d 65536 = true := absB_mk (by omega) hd.2
    go_region_held3 (fun w' => w'.cell? ⟨L, 0, none⟩ = some (.pointer (some ⟨b, 0, none⟩)) ∧ w'.cell? ⟨L, 7, none⟩ = some (.int .i64 t.out)) (first | exact ⟨c4 0, c4 7⟩ | exact s5) (first
      | (go_at_call 96; refine (pstep_ok t.out d _ P4.out.drew h2 (by have := LEN.out; omega) OK.out (by omega) SO.out hd2).mono ?_; rintro e w5 ⟨rfl, hp, hc5⟩; rw [SV.out] at hp ⊢; rw [SX.out] at hp; have C5 := hid (((Chg.refl (Fs b lb lv) w4).drew).trans hc5 (fun _ _ h => h)); have P5 := hid hp; have B5 := hid (B4.out.keep C5.out H.out.ap); have R5 := hid (R4.out.keep C5.out (fun hf => by have := H.out.p.lt _ hf; omega)); have b5 := B5.out.cell; simp only [List.setIfInBounds_toArray, List.set_cons_zero, List.set_cons_succ] at b5; have s5 := And.intro (b5 0) (b5 7); clear hp hc5))
    clear s5 c4
    have r5 := R5.out.cell
    have q5 := R5.out.frozen
    go_wp2_with fail
    have K := hid (((R5.out.set 0 (.int .i64 x)).set 1 (.int .i64 t.out)).set 2 (.int .i64 t.v))
    have k0 := K.out.cell 0
    have k1 := K.out.cell 1
    have k2 := K.out.cell 2
    simp at k0 k1 k2
    refine bodyPost_ret (v := .agg #[.int .i64 x, .int .i64 t.out, .int .i64 t.v]) (by simp [results, Try.results69, go_sem, k0, k1, k2]) rfl ?_
    have B6 : Blk w5 L 140 #[.pointer (some ⟨b, 0, none⟩), .int .i64 kp, .int .i64 ki, .int .i64 sh, .int .i64 lo, .int .i64 hi, .int .i64 rate, .int .i64 t.out, .int .i64 t.last] := by simpa using B5.out
    have nL : L ≠ w.heap.size := by have := L0; omega
    have C6 := (C4.out.mono (S' := Fl L b lb lv) (fun k _ e => .inl e)).trans C5.out (fun k _ hk => .inr hk)
    have PC := (((Chg.refl (fun k => k = w.heap.size) w5).setCell (a := ⟨w.heap.size, 0, none⟩) (.inl rfl) (.int .i64 x)).setCell (a := ⟨w.heap.size, 1, none⟩) (.inl rfl) (.int .i64 t.out)).setCell (a := ⟨w.heap.size, 2, none⟩) (.inl rfl) (.int .i64 t.v)
    exact ⟨rfl, ⟨((B6.other nL _).other nL _).other nL _, P5.out.keep PC (fun k hk e => by have := H.out.p.lt _ hk; omega), H.out.ap⟩, ((C6.setCell (a := ⟨w.heap.size, 0, none⟩) (.inr (Nat.le_refl _)) _).setCell (a := ⟨w.heap.size, 1, none⟩) (.inr (Nat.le_refl _)) _).setCell (a := ⟨w.heap.size, 2, none⟩) (.inr (Nat.le_refl _)) _⟩
  · go_simp
    (go_at_call 95; refine (pval_any _ (H.out.below ((Below.refl _ _).alloc (Nat.le_refl _) _)).p.drew).mono ?_; rintro e w2 ⟨rfl, rfl⟩)
    refine hK.out _ _ hS (fun hS => ?_)
    clear hK K
    try simp only [Act.put, List.setIfInBounds_toArray, List.set_cons_zero, List.set_cons_succ]
    refine wpAnyH_ready (rs := [8]) (by kernel_rfl) (by simp) ?_
    refine AllReadyH.cons (o := { dst := some 18, op := Op.load 127 (Operand.tmp 17), type := 127, pos := "closed.go:54", after := #[{ on := 7, ground := Ground.data }], guard := none }) rfl (fun K hK => ?_) AllReadyH.nil
    go_simp
    refine hK.out _ _ hS (fun hS => ?_)
    clear hK K
    try simp only [Act.put, List.setIfInBounds_toArray, List.set_cons_zero, List.set_cons_succ]
    refine wpAnyH_ready (rs := [15]) (by kernel_rfl) (by simp) ?_
    refine AllReadyH.cons rfl (fun K hK => ?_) AllReadyH.nil
    go_simp
    refine (Ct.step_any _ _ _ _ _ _ _ _ _ _ _).mono ?_
    rintro e w3 ⟨rfl, hb⟩
    rw [SR.out]
    have HB := hid (((Below.refl w.heap.size w).alloc (Nat.le_refl _) (.cells #[.int .i64 0, .int .i64 0, .int .i64 0] 94)).drew.trans (hb.mono (by simp)))
    have H3 := hid (H.out.below HB.out)
    have R3 : Hid (Blk w3 w.heap.size 94 #[.int .i64 0, .int .i64 0, .int .i64 0]) := hid (Blk.below (Blk.drew (Blk.at_new _ rfl)) hb (by simp))
    clear hS hb
    refine hK.out _ _ ⟨H3.out.blk.cell 0, H3.out.blk.cell 1, H3.out.blk.cell 2, H3.out.blk.cell 3, H3.out.blk.cell 4, H3.out.blk.cell 5, H3.out.blk.cell 6⟩ (fun hS => ?_)
    clear hK K
    try simp only [Act.put, List.setIfInBounds_toArray, List.set_cons_zero, List.set_cons_succ]
    refine take_at (i := 16) (v := ?_) rfl rfl (by kernel_rfl) (by kernel_rfl) (by kernel_rfl) (fun _ _ _ h => h) (Or.inl ⟨by rfl, ?_⟩) hS ?_
    rotate_left
    · intro w hSw; (try dsimp only at hSw); go_simp; try with_reducible rfl
    try simp only [List.setIfInBounds_toArray, List.set_cons_zero, List.set_cons_succ]
    refine take_at (i := 17) (v := ?_) rfl rfl (by kernel_rfl) (by kernel_rfl) (by kernel_rfl) (fun _ _ _ h => h) (Or.inl ⟨by rfl, ?_⟩) hS ?_
    rotate_left
    · intro w hSw; (try dsimp only at hSw); go_simp; try with_reducible rfl
    try simp only [List.setIfInBounds_toArray, List.set_cons_zero, List.set_cons_succ]
    refine take_at (i := 18) (v := ?_) rfl rfl (by kernel_rfl) (by kernel_rfl) (by kernel_rfl) (fun _ _ _ h => h) (Or.inl ⟨by rfl, ?_⟩) hS ?_
    rotate_left
    · intro w hSw; (try dsimp only at hSw); go_simp; try with_reducible rfl
    try simp only [List.setIfInBounds_toArray, List.set_cons_zero, List.set_cons_succ]
    refine take_at (i := 19) (v := ?_) rfl rfl (by kernel_rfl) (by kernel_rfl) (by kernel_rfl) (fun _ _ _ h => h) (Or.inl ⟨by rfl, ?_⟩) hS ?_
    rotate_left
    · intro w hSw; (try dsimp only at hSw); go_simp; try with_reducible rfl
    try simp only [List.setIfInBounds_toArray, List.set_cons_zero, List.set_cons_succ]
    refine take_at (i := 20) (v := ?_) rfl rfl (by kernel_rfl) (by kernel_rfl) (by kernel_rfl) (fun _ _ _ h => h) (Or.inl ⟨by rfl, ?_⟩) hS ?_
    rotate_left
    · intro w hSw; (try dsimp only at hSw); go_simp; try with_reducible rfl
    try simp only [List.setIfInBounds_toArray, List.set_cons_zero, List.set_cons_succ]
    have c3 := H3.out.blk.cell
    have f3 := H3.out.blk.frozen
    refine wpAnyH_ready (rs := [21]) (by kernel_rfl) (by simp) ?_
    refine AllReadyH.cons rfl (fun K hK => ?_) AllReadyH.nil
    go_simp
    clear hS c3 f3
    have B4 := hid ((H3.out.blk.set 7 (.int .i64 t.out)).set 8 (.int .i64 t.last))
    have P4 := hid (H3.out.p.keep (((Chg.refl (fun k => k = L) w3).setCell (a := ⟨L, 7, none⟩) (.inl rfl) (.int .i64 t.out)).setCell (a := ⟨L, 8, none⟩) (.inl rfl) (.int .i64 t.last)) (fun k hk e => by subst e; exact H3.out.ap hk))
    have C4 := hid ((((Chg.of_below (S := fun k => k = L) HB.out (fun k k1 k2 => by omega)).setCell (a := ⟨L, 7, none⟩) (.inl rfl) (.int .i64 t.out)).setCell (a := ⟨L, 8, none⟩) (.inl rfl) (.int .i64 t.last)))
    have R4 := hid ((R3.out.other (a := ⟨L, 7, none⟩) (by have := L0; simp; omega) (.int .i64 t.out)).other (a := ⟨L, 8, none⟩) (by have := L0; simp; omega) (.int .i64 t.last))
    generalize (w3.setCell ⟨L, 7, none⟩ (.int .i64 t.out)).setCell ⟨L, 8, none⟩ (.int .i64 t.last) = w4 at B4 P4 C4 R4 ⊢
    have c4 := B4.out.cell
    simp only [List.setIfInBounds_toArray, List.set_cons_zero, List.set_cons_succ] at c4
    refine hK.out _ _ ⟨c4 0, c4 1, c4 2, c4 3, c4 4, c4 5, c4 6⟩ (fun hS => ?_)
    clear hK K hS
    try simp only [Act.put, List.setIfInBounds_toArray, List.set_cons_zero, List.set_cons_succ]
    refine wpAnyH_done (by kernel_rfl) ?_ _
    go_wp2_with fail
    have hd2 : absB d 65536 = true := absB_mk (by omega) hd.2
    go_region_held3 (fun w' => w'.cell? ⟨L, 0, none⟩ = some (.pointer (some ⟨b, 0, none⟩)) ∧ w'.cell? ⟨L, 7, none⟩ = some (.int .i64 t.out)) (first | exact ⟨c4 0, c4 7⟩ | exact s5) (first
      | (go_at_call 96; refine (pstep_ok t.out d _ P4.out.drew h2 (by have := LEN.out; omega) OK.out (by omega) SO.out hd2).mono ?_; rintro e w5 ⟨rfl, hp, hc5⟩; rw [SV.out] at hp ⊢; rw [SX.out] at hp; have C5 := hid (((Chg.refl (Fs b lb lv) w4).drew).trans hc5 (fun _ _ h => h)); have P5 := hid hp; have B5 := hid (B4.out.keep C5.out H.out.ap); have R5 := hid (R4.out.keep C5.out (fun hf => by have := H.out.p.lt _ hf; omega)); have b5 := B5.out.cell; simp only [List.setIfInBounds_toArray, List.set_cons_zero, List.set_cons_succ] at b5; have s5 := And.intro (b5 0) (b5 7); clear hp hc5))
    clear s5 c4
    have r5 := R5.out.cell
    have q5 := R5.out.frozen
    go_wp2_with fail
    have K := hid (((R5.out.set 0 (.int .i64 x)).set 1 (.int .i64 t.out)).set 2 (.int .i64 t.v))
    have k0 := K.out.cell 0
    have k1 := K.out.cell 1
    have k2 := K.out.cell 2
    simp at k0 k1 k2
    refine bodyPost_ret (v := .agg #[.int .i64 x, .int .i64 t.out, .int .i64 t.v]) (by simp [results, Try.results69, go_sem, k0, k1, k2]) rfl ?_
    have B6 : Blk w5 L 140 #[.pointer (some ⟨b, 0, none⟩), .int .i64 kp, .int .i64 ki, .int .i64 sh, .int .i64 lo, .int .i64 hi, .int .i64 rate, .int .i64 t.out, .int .i64 t.last] := by simpa using B5.out
    have nL : L ≠ w.heap.size := by have := L0; omega
    have C6 := (C4.out.mono (S' := Fl L b lb lv) (fun k _ e => .inl e)).trans C5.out (fun k _ hk => .inr hk)
    have PC := (((Chg.refl (fun k => k = w.heap.size) w5).setCell (a := ⟨w.heap.size, 0, none⟩) (.inl rfl) (.int .i64 x)).setCell (a := ⟨w.heap.size, 1, none⟩) (.inl rfl) (.int .i64 t.out)).setCell (a := ⟨w.heap.size, 2, none⟩) (.inl rfl) (.int .i64 t.v)
    exact ⟨rfl, ⟨((B6.other nL _).other nL _).other nL _, P5.out.keep PC (fun k hk e => by have := H.out.p.lt _ hk; omega), H.out.ap⟩, ((C6.setCell (a := ⟨w.heap.size, 0, none⟩) (.inr (Nat.le_refl _)) _).setCell (a := ⟨w.heap.size, 1, none⟩) (.inr (Nat.le_refl _)) _).setCell (a := ⟨w.heap.size, 2, none⟩) (.inr (Nat.le_refl _)) _⟩
end Go.Proofs.Ytddphdkhaaolmaa
