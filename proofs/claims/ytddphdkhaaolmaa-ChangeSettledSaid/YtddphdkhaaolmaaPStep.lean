/- One step of a process. -/
import Derived.Test.YtddphdkhaaolmaaState
import Derived.Test.YtddphdkhaaolmaaLast
namespace Go.Proofs.Ytddphdkhaaolmaa
open Go.RowKit

theorem pst_set {w : World} {b lb : Nat} {ga la de v : Int} {lv : Value} {xs : List Int} (h : PSt w b ga la de v lb lv xs) (v' : Int) : PSt (w.setCell ⟨b, 3, none⟩ (.int .i64 v')) b ga la de v' lb lv xs :=
  ⟨h.blk.set 3 _, h.ln.keep ((Chg.refl (fun k => k = b) w).setCell (a := ⟨b, 3, none⟩) (.inl rfl) _) (fun k hk e => by subst e; exact h.ap hk), h.ap⟩
set_option linter.unusedSimpArgs false in
set_option maxRecDepth 100000 in
set_option maxHeartbeats 1000000 in
theorem pstep_ok {b lb : Nat} {ga la de v : Int} {lv : Value} {xs : List Int} (o d : Int) (w : World) (h : PSt w b ga la de v lb lv xs) (hc : chkP ga la de = 0) (hl : xs.length ≤ 1000) (hx : OkL xs) (hv : -1125899906842624 ≤ v ∧ v ≤ 1125899906842624) (h1 : absB o 16777216 = true) (h2 : absB d 65536 = true) :
    Calls Try.prog 96 #[.pointer (some ⟨b, 0, none⟩), .int .i64 o, .int .i64 d] w fun e w' => e = .returned (.tuple #[.int .i64 (v + ((tgt ga (outOf xs o) - v) / la + d)), .int .i64 0]) ∧ PSt w' b ga la de (v + ((tgt ga (outOf xs o) - v) / la + d)) lb lv (pushOf xs o) ∧ Chg (Fs b lb lv) w w' := by
  have c := h.blk.cell
  have H := hid h
  have ho := okl_out hx h1
  clear hx h
  go_enter Try.func96, Try.ntmps96
  go_wp2_with (go_at_call 88; refine (within_any _ _ _ (by omega)).mono ?_; rintro e w2 ⟨rfl, rfl⟩)
  refine (push_any _ _ _ _ _ H.out.ln (by omega)).mono ?_
  rintro e w1 ⟨rfl, hL, hC, hN⟩
  have B1 := hid (H.out.blk.keep hC H.out.ap)
  clear c
  have c := B1.out.cell
  have HL := hid hL
  have HC := hid hC
  clear hL hC hN
  go_wp2_with fail
  obtain ⟨b1, b2, b3, b4, b5, b6⟩ := chkP_ok hc
  have hd := absB_true h2
  have ht := tgt_bd (n := outOf xs o) b1 b2 (by omega) (by omega)
  obtain ⟨T, hT⟩ : ∃ T, tgt ga (outOf xs o) = T := ⟨_, rfl⟩
  rw [hT] at ht
  have hq := quo_bnd (T - v) la
  have w1a : IntKind.i64.wrap (T - v) = T - v := IntWalk.i64_in _ (by omega)
  have w1b : IntKind.i64.wrap ((T - v) / la + d) = (T - v) / la + d := IntWalk.i64_in _ (by omega)
  have w1c : IntKind.i64.wrap (v + ((T - v) / la + d)) = v + ((T - v) / la + d) := IntWalk.i64_in _ (by omega)
  have TT := hid hT
  clear hT
  refine wp_region_last (fun w' => ∀ i, w'.cell? ⟨b, i, none⟩ = (#[.int .i64 ga, .int .i64 la, .int .i64 de, .int .i64 v, .pointer (some ⟨lb, 0, none⟩)] : Array Value)[i]?) (by kernel_rfl) (by kernel_rfl) ?_
  simp only [dullLast, dullOp, List.length_cons, List.length_nil, Nat.zero_add, Nat.reduceAdd]
  have hS : ∀ i, w1.drew.cell? ⟨b, i, none⟩ = (#[.int .i64 ga, .int .i64 la, .int .i64 de, .int .i64 v, .pointer (some ⟨lb, 0, none⟩)] : Array Value)[i]? := c
  clear c
  refine take_at (i := 0) (v := ?_) rfl rfl (by kernel_rfl) (by kernel_rfl) (by kernel_rfl) (fun _ _ _ h => h) (Or.inl ⟨by rfl, ?_⟩) hS ?_
  rotate_left
  · intro w hSw; (try dsimp only at hSw); go_simp; try with_reducible rfl
  try simp only [List.setIfInBounds_toArray, List.set_cons_zero, List.set_cons_succ]
  refine take_at (i := 1) (v := ?_) rfl rfl (by kernel_rfl) (by kernel_rfl) (by kernel_rfl) (fun _ _ _ h => h) (Or.inl ⟨by rfl, ?_⟩) hS ?_
  rotate_left
  · intro w hSw; (try dsimp only at hSw); go_simp; try with_reducible rfl
  try simp only [List.setIfInBounds_toArray, List.set_cons_zero, List.set_cons_succ]
  refine take_at (i := 2) (v := ?_) rfl rfl (by kernel_rfl) (by kernel_rfl) (by kernel_rfl) (fun _ _ _ h => h) (Or.inl ⟨by rfl, ?_⟩) hS ?_
  rotate_left
  · intro w hSw; (try dsimp only at hSw); go_simp; try with_reducible rfl
  try simp only [List.setIfInBounds_toArray, List.set_cons_zero, List.set_cons_succ]
  refine take_at (i := 3) (v := ?_) rfl rfl (by kernel_rfl) (by kernel_rfl) (by kernel_rfl) (fun _ _ _ h => h) (Or.inl ⟨by rfl, ?_⟩) hS ?_
  rotate_left
  · intro w hSw; (try dsimp only at hSw); go_simp; try with_reducible rfl
  try simp only [List.setIfInBounds_toArray, List.set_cons_zero, List.set_cons_succ]
  refine take_at (i := 4) (v := ?_) rfl rfl (by kernel_rfl) (by kernel_rfl) (by kernel_rfl) (fun _ _ _ h => h) (Or.inl ⟨by rfl, ?_⟩) hS ?_
  rotate_left
  · intro w hSw; (try dsimp only at hSw); go_simp; try with_reducible rfl
  try simp only [List.setIfInBounds_toArray, List.set_cons_zero, List.set_cons_succ]
  refine take_at (i := 5) (v := ?_) rfl rfl (by kernel_rfl) (by kernel_rfl) (by kernel_rfl) (fun _ _ _ h => h) (Or.inl ⟨by rfl, ?_⟩) hS ?_
  rotate_left
  · intro w hSw; (try dsimp only at hSw); go_simp; try with_reducible rfl
  try simp only [List.setIfInBounds_toArray, List.set_cons_zero, List.set_cons_succ]
  refine take_at (i := 6) (v := ?_) rfl rfl (by kernel_rfl) (by kernel_rfl) (by kernel_rfl) (fun _ _ _ h => h) (Or.inl ⟨by rfl, ?_⟩) hS ?_
  rotate_left
  · intro w hSw; (try dsimp only at hSw); go_simp; try with_reducible rfl
  try simp only [List.setIfInBounds_toArray, List.set_cons_zero, List.set_cons_succ]
  refine take_at (i := 7) (v := ?_) rfl rfl (by kernel_rfl) (by kernel_rfl) (by kernel_rfl) (fun _ _ _ h => h) (Or.inl ⟨by rfl, ?_⟩) hS ?_
  rotate_left
  · intro w hSw; (try dsimp only at hSw); go_simp; try with_reducible rfl
  try simp only [List.setIfInBounds_toArray, List.set_cons_zero, List.set_cons_succ]
  refine take_at (i := 8) (v := ?_) rfl rfl (by kernel_rfl) (by kernel_rfl) (by kernel_rfl) (fun _ _ _ h => h) (Or.inl ⟨by rfl, ?_⟩) hS ?_
  rotate_left
  · intro w hSw; (try dsimp only at hSw); go_simp; try with_reducible rfl
  try simp only [List.setIfInBounds_toArray, List.set_cons_zero, List.set_cons_succ]
  refine take_at (i := 10) (v := ?_) rfl rfl (by kernel_rfl) (by kernel_rfl) (by kernel_rfl) (fun _ _ _ h => h) (Or.inl ⟨by rfl, ?_⟩) hS ?_
  rotate_left
  · intro w hSw; (try dsimp only at hSw); go_simp; try with_reducible rfl
  try simp only [List.setIfInBounds_toArray, List.set_cons_zero, List.set_cons_succ]
  refine take_at (i := 11) (v := ?_) rfl rfl (by kernel_rfl) (by kernel_rfl) (by kernel_rfl) (fun _ _ _ h => h) (Or.inl ⟨by rfl, ?_⟩) hS ?_
  rotate_left
  · intro w hSw; (try dsimp only at hSw); go_simp; try with_reducible rfl
  try simp only [List.setIfInBounds_toArray, List.set_cons_zero, List.set_cons_succ]
  refine take_at (i := 12) (v := ?_) rfl rfl (by kernel_rfl) (by kernel_rfl) (by kernel_rfl) (fun _ _ _ h => h) (Or.inl ⟨by rfl, ?_⟩) hS ?_
  rotate_left
  · intro w hSw; (try dsimp only at hSw); go_simp; try with_reducible rfl
  try simp only [List.setIfInBounds_toArray, List.set_cons_zero, List.set_cons_succ]
  refine take_at (i := 13) (v := ?_) rfl rfl (by kernel_rfl) (by kernel_rfl) (by kernel_rfl) (fun _ _ _ h => h) (Or.inl ⟨by rfl, ?_⟩) hS ?_
  rotate_left
  · intro w hSw; (try dsimp only at hSw); go_simp; try with_reducible rfl
  try simp only [List.setIfInBounds_toArray, List.set_cons_zero, List.set_cons_succ]
  refine take_at (i := 15) (v := ?_) rfl rfl (by kernel_rfl) (by kernel_rfl) (by kernel_rfl) (fun _ _ _ h => h) (Or.inl ⟨by rfl, ?_⟩) hS ?_
  rotate_left
  · intro w hSw; (try dsimp only at hSw); go_simp; try with_reducible rfl
  try simp only [List.setIfInBounds_toArray, List.set_cons_zero, List.set_cons_succ]
  refine take_at (i := 16) (v := ?_) rfl rfl (by kernel_rfl) (by kernel_rfl) (by kernel_rfl) (fun _ _ _ h => h) (Or.inl ⟨by rfl, ?_⟩) hS ?_
  rotate_left
  · intro w hSw; (try dsimp only at hSw); go_simp; try with_reducible rfl
  try simp only [List.setIfInBounds_toArray, List.set_cons_zero, List.set_cons_succ]
  refine take_at (i := 17) (v := ?_) rfl rfl (by kernel_rfl) (by kernel_rfl) (by kernel_rfl) (fun _ _ _ h => h) (Or.inl ⟨by rfl, ?_⟩) hS ?_
  rotate_left
  · intro w hSw; (try dsimp only at hSw); go_simp; try with_reducible rfl
  try simp only [List.setIfInBounds_toArray, List.set_cons_zero, List.set_cons_succ]
  refine take_at (i := 18) (v := ?_) rfl rfl (by kernel_rfl) (by kernel_rfl) (by kernel_rfl) (fun _ _ _ h => h) (Or.inl ⟨by rfl, ?_⟩) hS ?_
  rotate_left
  · intro w hSw; (try dsimp only at hSw); go_simp; try with_reducible rfl
  try simp only [List.setIfInBounds_toArray, List.set_cons_zero, List.set_cons_succ]
  refine take_at (i := 19) (v := ?_) rfl rfl (by kernel_rfl) (by kernel_rfl) (by kernel_rfl) (fun _ _ _ h => h) (Or.inl ⟨by rfl, ?_⟩) hS ?_
  rotate_left
  · intro w hSw; (try dsimp only at hSw); go_simp; try with_reducible rfl
  try simp only [List.setIfInBounds_toArray, List.set_cons_zero, List.set_cons_succ]
  refine take_at (i := 21) (v := ?_) rfl rfl (by kernel_rfl) (by kernel_rfl) (by kernel_rfl) (fun _ _ _ h => h) (Or.inl ⟨by rfl, ?_⟩) hS ?_
  rotate_left
  · intro w hSw; (try dsimp only at hSw); go_simp; try with_reducible rfl
  try simp only [List.setIfInBounds_toArray, List.set_cons_zero, List.set_cons_succ]
  refine wpAnyH_ready (rs := [9]) (by kernel_rfl) (by simp) ?_
  refine AllReadyH.cons (o := { dst := some 41, op := Op.call { callee := Callee.value (Operand.func 89), args := #[Operand.tmp 39, Operand.tmp 40], argTypes := #[25, 3] }, type := 3, pos := "process.go:84", after := #[{ on := 7, ground := Ground.data }, { on := 8, ground := Ground.data }], guard := none }) rfl (fun K hK => ?_) AllReadyH.nil
  go_simp
  (go_at_call 89; refine (target_any ga la de (outOf xs o) _ b1 b2 (by omega) (by omega)).mono ?_; rintro e w3 ⟨rfl, hb⟩; rw [TT.out])
  have HB := hid ((Below.drew (Below.refl w1.heap.size w1)).trans hb)
  have B2 := hid (Blk.below B1.out HB.out B1.out.lt)
  clear hS hb
  refine hK.out _ _ B2.out.cell (fun hS => ?_)
  clear hK K
  try simp only [Act.put, List.setIfInBounds_toArray, List.set_cons_zero, List.set_cons_succ]
  refine take_at (i := 14) (v := ?_) rfl rfl (by kernel_rfl) (by kernel_rfl) (by kernel_rfl) (fun _ _ _ h => h) (Or.inl ⟨by rfl, ?_⟩) hS ?_
  rotate_left
  · intro w hSw; (try dsimp only at hSw); go_simp; try with_reducible rfl
  try simp only [List.setIfInBounds_toArray, List.set_cons_zero, List.set_cons_succ]
  refine wpAnyH_ready (rs := [20]) (by kernel_rfl) (by simp) ?_
  refine AllReadyH.cons (o := { dst := some 52, op := Op.call { callee := Callee.value (Operand.func 101), args := #[Operand.tmp 46, Operand.tmp 51], argTypes := #[3, 3] }, type := 3, pos := "process.go:84", after := #[{ on := 14, ground := Ground.data }, { on := 19, ground := Ground.data }, { on := 9, ground := Ground.chain }], guard := none }) rfl (fun K hK => ?_) AllReadyH.nil
  go_simp
  (go_at_call 101; refine (floor_any (T - v) la _ b3 (by omega) (by omega) (by omega)).mono ?_; rintro e w4 ⟨rfl, rfl⟩)
  clear hS
  refine hK.out _ _ B2.out.cell (fun hS => ?_)
  clear hK K
  try simp only [Act.put, List.setIfInBounds_toArray, List.set_cons_zero, List.set_cons_succ]
  refine take_at (i := 22) (v := ?_) rfl rfl (by kernel_rfl) (by kernel_rfl) (by kernel_rfl) (fun _ _ _ h => h) (Or.inl ⟨by rfl, ?_⟩) hS ?_
  rotate_left
  · intro w hSw; (try dsimp only at hSw); go_simp; try with_reducible rfl
  try simp only [List.setIfInBounds_toArray, List.set_cons_zero, List.set_cons_succ]
  refine take_at (i := 23) (v := ?_) rfl rfl (by kernel_rfl) (by kernel_rfl) (by kernel_rfl) (fun _ _ _ h => h) (Or.inl ⟨by rfl, ?_⟩) hS ?_
  rotate_left
  · intro w hSw; (try dsimp only at hSw); go_simp; try with_reducible rfl
  try simp only [List.setIfInBounds_toArray, List.set_cons_zero, List.set_cons_succ]
  refine take_at (i := 24) (v := ?_) rfl rfl (by kernel_rfl) (by kernel_rfl) (by kernel_rfl) (fun _ _ _ h => h) (Or.inl ⟨by rfl, ?_⟩) hS ?_
  rotate_left
  · intro w hSw; (try dsimp only at hSw); go_simp; try with_reducible rfl
  try simp only [List.setIfInBounds_toArray, List.set_cons_zero, List.set_cons_succ]
  refine take_at (i := 25) (v := ?_) rfl rfl (by kernel_rfl) (by kernel_rfl) (by kernel_rfl) (fun _ _ _ h => h) (Or.inl ⟨by rfl, ?_⟩) hS ?_
  rotate_left
  · intro w hSw; (try dsimp only at hSw); go_simp; try with_reducible rfl
  try simp only [List.setIfInBounds_toArray, List.set_cons_zero, List.set_cons_succ]
  refine take_none (i := 26) (v := ?_) rfl rfl (by kernel_rfl) (by kernel_rfl) (by kernel_rfl) (fun _ _ _ h => h) (Or.inl ⟨by rfl, ?_⟩) hS ?_
  rotate_left
  · intro w hSw; go_simp; try with_reducible rfl
  refine wpAnyH_done (by kernel_rfl) ?_ _
  simp only [LastQ, List.length_cons, List.length_nil, Nat.zero_add, Nat.reduceAdd, Nat.reduceSub, List.drop_succ_cons, List.drop_zero]
  have f3 := B2.out.frozen
  have H3 := hid (PSt.mk B2.out (HL.out.below HB.out) H.out.ap)
  have CC := hid ((HC.out.mono (fun k _ hk => (show Fs b lb lv k from .inr hk))).trans (Chg.of_below (S := Nn) HB.out (fun k k1 k2 => by omega)) (fun _ _ hk => hk.elim))
  have HS := hid (pst_set H3.out (v + ((T - v) / la + d)))
  have c5 := (B2.out.set 3 (.int .i64 (v + ((T - v) / la + d)))).cell
  simp only [List.setIfInBounds_toArray, List.set_cons_zero, List.set_cons_succ] at c5
  go_wp2
  go_ret2
  rw [TT.out]
  exact ⟨rfl, HS.out, CC.out.setCell (a := ⟨b, 3, none⟩) (.inl (.inl rfl)) _⟩
end Go.Proofs.Ytddphdkhaaolmaa
