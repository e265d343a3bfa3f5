/- ClosedSettled. -/
import Derived.Test.YtkcalkiibolceaaCl8
import Derived.Deep.DeepCutAuto
import Derived.Test.YtkcalkiibolceaaHand
namespace Go.Proofs.Ytkcalkiibolceaa
open Go.RowKit

section
variable {P : Program} {ops : Array Oper} {w : World} {Q : Act → Prop} {o : Oper} {rest : List Oper} {a : Act}
theorem still_take {v : Value} (hw : Region.wanted o (yielded ops a.tmps) = true) (hr : (execOp a.eval o).run P w = .ok (.value v) w) (h : ∀ K : Act → Prop, (∀ b, wpStill P ops w Q rest b → K b) → K (a.put o.dst v)) : wpStill P ops w Q (o :: rest) a := by
  have h := h _ (fun _ h => h)
  simp only [wpStill, hw, if_true, Oper.still, hr, Oper.stillUpon]
  exact ⟨trivial, h⟩
theorem still_omit (hw : Region.wanted o (yielded ops a.tmps) = false) (h : ∀ K : Act → Prop, (∀ b, wpStill P ops w Q rest b → K b) → K (a.put o.dst undef)) : wpStill P ops w Q (o :: rest) a := by
  have h := h _ (fun _ h => h)
  simp only [wpStill, hw]
  exact h
theorem still_enter {f : Nat} {args : Array Value} {v : Value} (hw : Region.wanted o (yielded ops a.tmps) = true) (hr : (execOp a.eval o).run P w = .ok (.enter f args) w) (hc : Calls P f args w (fun e w'' => e = .returned v ∧ w'' = w)) (h : ∀ K : Act → Prop, (∀ b, wpStill P ops w Q rest b → K b) → K (a.put o.dst v)) : wpStill P ops w Q (o :: rest) a := by
  have h := h _ (fun _ h => h)
  simp only [wpStill, hw, if_true, Oper.still, hr, Oper.stillUpon]
  exact ⟨trivial, v, hc, h⟩
end
instance {a b t : Int} : Decidable (nearI a b t) := by unfold nearI; infer_instance
set_option linter.unusedSimpArgs false in
theorem nearB_any (a b t : Int) (w : World) (ha : -1073741824 ≤ a ∧ a ≤ 1073741824) (hb : -1073741824 ≤ b ∧ b ≤ 1073741824) : Calls Try.prog 22 #[.int .i64 a, .int .i64 b, .int .i64 t] w fun e w' => e = .returned (.bool (decide (nearI a b t))) ∧ w = w' := by
  by_cases h1 : a - b ≤ t
  all_goals by_cases h2 : b - a ≤ t
  all_goals
    have R : Hid (decide (nearI a b t) = decide (nearI a b t)) := hid rfl
    go_enter Try.func22, Try.ntmps22
    go_wp2
    go_ret
    refine ⟨ret_b ?_, rfl⟩
    unfold nearI
    first | exact (decide_eq_true (by omega)).symm | exact (decide_eq_false (by omega)).symm | exact decide_eq_true (by omega) | exact decide_eq_false (by omega)
theorem prun_rep {kp ki sh lo hi rate ga la out v x : Int} {D : Nat} (a1 a2 : Option Addr) (c1 c2 M : Nat) (w : World) (r1 : Rds Nn w 1 a1 M (ints (List.replicate M x))) (r2 : Rds Nn w 1 a2 M (ints (List.replicate M 0))) (hM : M ≤ 512) (hc : chkC kp ki sh lo hi rate ga la (D : Int) = 0) (hb : okB lo hi out v = true) (hx : absB x 16777216 = true) :
    Calls Try.prog 16 #[.agg #[.int .i64 kp, .int .i64 ki, .int .i64 sh, .int .i64 lo, .int .i64 hi, .int .i64 rate, .int .i64 ga, .int .i64 la, .int .i64 ((D : Int))], .int .i64 out, .int .i64 v, .slice a1 M c1, .slice a2 M c2] w fun e w' => ∃ A c, e = .returned (.tuple #[.slice A M c, .int .i64 0]) ∧ Rds Nn w' 3 A M (ints (sims kp ki sh lo hi rate ga la (s0 out v D) (List.replicate M (x, 0))).flatten) ∧ Below w.heap.size w w' := by
  have l1 : (List.replicate M x).length = M := List.length_replicate
  have l2 : (List.replicate M (0 : Int)).length = M := List.length_replicate
  have h := run_any kp ki sh lo hi rate ga la (D : Int) out v a1 a2 c1 c2 (List.replicate M x) (List.replicate M 0) w (by rw [l1]; exact r1) (by rw [l2]; exact r2) (by omega)
  rw [l1, l2] at h
  have he : runErr kp ki sh lo hi rate ga la (D : Int) out v (List.replicate M x) (List.replicate M 0) = 0 := run_mk hc (by omega) (by omega) hb (fun p hp => by rw [zip_rep] at hp; have := (List.mem_replicate.1 hp).2; subst this; simp only [okP, hx, Bool.true_and]; rfl)
  have hr := rows_ok he
  rw [zip_rep, Int.toNat_natCast, l1] at hr
  refine h.mono ?_
  rintro e w' ⟨u, rfl, ho, hbel⟩
  rw [he]
  rw [hr.2, hr.1] at ho
  obtain ⟨A, c, rfl, _, _⟩ := own_form ho
  exact ⟨A, c, rfl, Rds.own ho (S := Nn) (fun _ _ => id), hbel⟩
theorem pre_ok {kp ki sh lo hi rate ga la de out v x tol hold most : Int} (h : stPre kp ki sh lo hi rate ga la de out v x tol hold most = 0) : chkC kp ki sh lo hi rate ga la de = 0 ∧ okB lo hi out v = true ∧ absB x 16777216 = true ∧ bandB tol hold most := by
  unfold stPre at h
  split at h
  · rename_i hq; exact absurd h hq
  · rename_i hq
    split at h
    · rename_i hb
      obtain ⟨h1, h2⟩ := hb
      simp only [Bool.and_eq_true] at h1
      exact ⟨by simpa using hq, h1.1, h1.2, h2⟩
    · cases h
theorem rep_app1 (k : Nat) (x : Int) : ints (List.replicate k x) ++ [.int .i64 x] = ints (List.replicate (k + 1) x) := by
  rw [List.replicate_succ', ints_append]; rfl
set_option maxRecDepth 100000 in
set_option maxHeartbeats 8000000 in
theorem closedSettled_walk (x0 : Int) (x1 : Int) (x2 : Int) (x3 : Int) (x4 : Int) (x5 : Int) (x6 : Int) (x7 : Int) (x8 : Int) (x9 : Int) (x10 : Int) (x11 : Int) (x12 : Int) (x13 : Int) (x14 : Int) (w : World) (_h0 : (Lit.int .i64 x0).wf = true) (_h1 : (Lit.int .i64 x1).wf = true) (_h2 : (Lit.int .i64 x2).wf = true) (_h3 : (Lit.int .i64 x3).wf = true) (_h4 : (Lit.int .i64 x4).wf = true) (_h5 : (Lit.int .i64 x5).wf = true) (_h6 : (Lit.int .i64 x6).wf = true) (_h7 : (Lit.int .i64 x7).wf = true) (_h8 : (Lit.int .i64 x8).wf = true) (_h9 : (Lit.int .i64 x9).wf = true) (_h10 : (Lit.int .i64 x10).wf = true) (_h11 : (Lit.int .i64 x11).wf = true) (_h12 : (Lit.int .i64 x12).wf = true) (_h13 : (Lit.int .i64 x13).wf = true) (_h14 : (Lit.int .i64 x14).wf = true) :
    Calls Try.prog 9 #[.agg #[.int .i64 x0, .int .i64 x1, .int .i64 x2, .int .i64 x3, .int .i64 x4, .int .i64 x5, .int .i64 x6, .int .i64 x7, .int .i64 x8], .int .i64 x9, .int .i64 x10, .int .i64 x11, .agg #[.int .i64 x12, .int .i64 x13, .int .i64 x14]] w fun e w' => e = .returned (.bool true) ∧ Below w.heap.size w w' := by
  go_enter Try.func9, Try.ntmps9
  go_wp2_with fail
  refine (settle_any x0 x1 x2 x3 x4 x5 x6 x7 x8 x9 x10 x11 x12 x13 x14 _).mono ?_
  rintro e w1 ⟨n, er, rfl, h1, hb⟩
  have C1 : Hid (Blk w1 (w.heap.size) 27 #[.int .i64 x0, .int .i64 x1, .int .i64 x2, .int .i64 x3, .int .i64 x4, .int .i64 x5, .int .i64 x6, .int .i64 x7, .int .i64 x8]) := hid (Blk.below (Blk.alloc (Blk.at_new _ (by simp)) _) hb (by simp <;> omega))
  have W1 : Hid (Blk w1 (w.heap.size + 1) 42 #[.int .i64 x12, .int .i64 x13, .int .i64 x14]) := hid (Blk.below (Blk.at_new _ (by simp)) hb (by simp <;> omega))
  have B1 : Hid (Below w.heap.size w w1) := hid (Below.trans (((Below.refl _ _).alloc (by simp <;> omega) _).alloc (by simp <;> omega) _) (hb.mono (by simp <;> omega)))
  clear hb
  have cC_0 : ∀ (i : Nat), w1.cell? ⟨w.heap.size, i, none⟩ = (#[.int .i64 x0, .int .i64 x1, .int .i64 x2, .int .i64 x3, .int .i64 x4, .int .i64 x5, .int .i64 x6, .int .i64 x7, .int .i64 x8] : Array Value)[i]? := Blk.cell C1.out
  have cC_1 : ∀ (o0 : Obj) (i : Nat), (w1.alloc o0).cell? ⟨w.heap.size, i, none⟩ = (#[.int .i64 x0, .int .i64 x1, .int .i64 x2, .int .i64 x3, .int .i64 x4, .int .i64 x5, .int .i64 x6, .int .i64 x7, .int .i64 x8] : Array Value)[i]? := fun _ => Blk.cell (Blk.alloc C1.out _)
  have cW_0 : ∀ (i : Nat), w1.cell? ⟨w.heap.size + 1, i, none⟩ = (#[.int .i64 x12, .int .i64 x13, .int .i64 x14] : Array Value)[i]? := Blk.cell W1.out
  have cW_1 : ∀ (o0 : Obj) (i : Nat), (w1.alloc o0).cell? ⟨w.heap.size + 1, i, none⟩ = (#[.int .i64 x12, .int .i64 x13, .int .i64 x14] : Array Value)[i]? := fun _ => Blk.cell (Blk.alloc W1.out _)
  have bad : ∀ er' : Int, er = er' → er' ≠ 0 → n = 0 → (er != 0) = true ∧ n = 0 := fun er' h1 h2 h3 => ⟨by rw [h1]; simpa using h2, h3⟩
  by_cases hp : stPre x0 x1 x2 x3 x4 x5 x6 x7 x8 x9 x10 x11 x12 x13 x14 = 0
  rotate_left
  · obtain ⟨b1, b2⟩ := bad _ (h1.1 hp).2 hp (h1.1 hp).1
    clear bad h1 hp
    go_wp2_with (go_at_call 14; refine (awake_any _).mono ?_; rintro e v9 ⟨rfl, hb⟩)
    go_ret
    exact ⟨rfl, B1.out.trans (hb.mono B1.out.size)⟩
  rcases h1.2 hp with ⟨K, rfl, rfl, n1, n2, hs, hnone⟩ | ⟨rfl, rfl, _⟩
  rotate_left
  · clear bad h1 hp
    go_wp2_with (go_at_call 14; refine (awake_any _).mono ?_; rintro e v9 ⟨rfl, hb⟩)
    go_ret
    exact ⟨rfl, B1.out.trans (hb.mono B1.out.size)⟩
  obtain ⟨k1, k2, k3, k4⟩ := pre_ok hp
  obtain ⟨j1, j2, _, _⟩ := chkC_ok k1
  obtain ⟨D, rfl⟩ := Int.eq_ofNat_of_zero_le (chkP_ok j2).2.2.2.2.1
  obtain ⟨d1, d2, d3, d4, d5, d6⟩ := k4
  have hk := hs.1
  rw [Int.toNat_natCast] at hs hnone
  have HS := hid hs
  have HN := hid hnone
  have HC := hid k1
  have HB := hid k2
  have HX := hid k3
  have xb := absB_true k3
  have K512 : K ≤ 512 := by omega
  have i0 := inv0 (D := D) (la := x7) k2 (show 0 ≤ x7 by have := chkP_ok j2; omega)
  have VB : Hid (∀ k, -1073741824 ≤ val x0 x1 x2 x3 x4 x5 x6 x7 (s0 x9 x10 D) x11 k ∧ val x0 x1 x2 x3 x4 x5 x6 x7 (s0 x9 x10 D) x11 k ≤ 1073741824) := hid (fun k => by
    have := (inv_fin k1 (List.replicate k (x11, 0)) (s0 x9 x10 D) i0 (fun p hp => by have := (List.mem_replicate.1 hp).2; subst this; simp only [okP, k3, Bool.true_and]; rfl)).vb j2
    unfold val
    omega)
  have LST : Hid ((K : Int) = x13 ∨ ¬ nearI (val x0 x1 x2 x3 x4 x5 x6 x7 (s0 x9 x10 D) x11 (K - x13.toNat)) x11 x12) := hid (by
    by_cases hkk : (K : Int) = x13
    · exact .inl hkk
    · refine .inr (fun hne => hnone (K - 1) (by omega) ⟨by omega, fun j h1 h2 => ?_⟩)
      by_cases hj : j = K - x13.toNat
      · subst hj; exact hne
      · exact hs.2 j (by omega) (by omega))
  have hmk := run_make_row' (P := Try.prog) 34 3 (.int .i64 0) 8 Try.underlying34 info3 rfl .i64 .i64 K (by omega) (by omega)
  clear bad h1 hp hs hnone k1 k2 k3 j1 j2 i0
  obtain ⟨N0, hN0⟩ : ∃ N0, N0 = w1.heap.size := ⟨_, rfl⟩
  have CB : Hid (w.heap.size + 1 < N0) := hid (by rw [hN0]; exact W1.out.lt)
  have BN : Hid (w.heap.size ≤ N0) := hid (by rw [hN0]; exact B1.out.size)
  have ZN := hid (Nat.le_of_eq hN0)
  clear hN0
  go_wp2
  go_loopw [13, 14] (fun u i wr => ∃ k : Nat, k ≤ K ∧ i = .int .i64 k ∧ wr.ownsRow N0 3 1 u k (ints (List.replicate k x11)) ∧ Blk wr w.heap.size 27 #[.int .i64 x0, .int .i64 x1, .int .i64 x2, .int .i64 x3, .int .i64 x4, .int .i64 x5, .int .i64 x6, .int .i64 x7, .int .i64 ((D : Int))] ∧ Blk wr (w.heap.size + 1) 42 #[.int .i64 x12, .int .i64 x13, .int .i64 x14] ∧ Below w.heap.size w wr ∧ N0 ≤ wr.heap.size) (fun _ i _ => K - (intOf i).toNat)
  case atStart => exact ⟨0, Nat.zero_le _, rfl, own_nil _ _ _ _, C1.out, W1.out, B1.out, ZN.out⟩
  case round =>
    obtain ⟨k, hk, rfl, hown, hC, hW, hbel, hz⟩ := hrel
    have OW := hid hown
    have CC := hid hC
    have WW := hid hW
    have BB := hid hbel
    have ZZ := hid hz
    obtain ⟨A, cp, rfl, _, _⟩ := own_form hown
    clear hown hC hW hbel hz
    by_cases hlt : k < K
    · go_wp2_with (at_builtin; refine wpList_app info3 Try.underlying34 rfl (by omega) (by omega) (own_keep (own_base_le OW.out (Nat.zero_le _)) ((Chg.refl Nn _).alloc _) (fun _ _ => id)) (Rds.one _ _ _) (by intro u hu; simp at hu; subst hu; rfl) (by omega) rfl rfl rfl rfl ?_; intro u2 w2 hown hchg hnew; obtain ⟨A2, cp2, rfl, _, _⟩ := own_form hown; have NR : Hid (∀ g, Rw (.slice A k cp) g → N0 ≤ g) := hid (fun g hg => (own_blk OW.out g hg).1); have C2 := hid ((Blk.alloc CC.out _).keep hchg (fun hf => by have h1 := NR.out _ hf; have h2 := CB.out; omega)); have W2 := hid ((Blk.alloc WW.out _).keep hchg (fun hf => by have h1 := NR.out _ hf; have h2 := CB.out; omega)); have B2 := hid (hchg.then_below (Below.alloc BB.out BB.out.size _) (fun j hj hf => by have h1 := NR.out j hf; have h2 := BN.out; omega) (Nat.le_trans BB.out.size (by simp))); have O2 := hid (own_rebase hown (base' := N0) (fun g hg => (hnew g hg).elim (fun h => NR.out g h) (fun h => by have h2 := ZZ.out; simp at h; omega))); have Z2 : Hid (N0 ≤ w2.heap.size) := hid (Nat.le_trans ZZ.out (Nat.le_trans (by simp) hchg.size)); clear hown hchg hnew)
      go_roundw
      case rel => exact ⟨k + 1, by omega, by go_num, by rw [← rep_app1]; exact O2.out, C2.out, W2.out, B2.out, Z2.out⟩
      case measure => simp [intOf]; omega
    · obtain rfl : k = K := by omega
      have RS := hid (Rds.own OW.out (S := Nn) (fun _ _ => id))
      have cC := CC.out.cell
      go_wp2_with fail
      go_region_held3 (fun w' => ∀ i, w'.cell? ⟨w.heap.size, i, none⟩ = (#[.int .i64 x0, .int .i64 x1, .int .i64 x2, .int .i64 x3, .int .i64 x4, .int .i64 x5, .int .i64 x6, .int .i64 x7, .int .i64 ((D : Int))] : Array Value)[i]?) (first | exact cC | exact (Blk.alloc (Blk.drew CC.out) _).cell | exact s3) (first
        | (go_at_call 16; refine (prun_rep (x := x11) _ _ _ _ _ _ (RS.out.keep (((Chg.refl Nn wr).drew).alloc _)) (Rds.own (made_own _ (Nat.zero_le _) (by omega)) (S := Nn) (fun _ _ => id)) K512 HC.out HB.out HX.out).mono ?_; rintro e w3 ⟨A3, c3, rfl, hr3, hb3⟩; have R3 := hid hr3; have HB3 := hid ((Below.alloc (Below.drew (Below.refl wr.heap.size wr)) (by simp) (.cells (madeCells #[.int .i64 0] k) 3)).trans (hb3.mono (by simp))); have C3 := hid (CC.out.below HB3.out CC.out.lt); have W3' := hid (WW.out.below HB3.out WW.out.lt); have B3 := hid (BB.out.trans (HB3.out.mono BB.out.size)); have s3 := C3.out.cell; clear hr3 hb3))
      clear s3 cC
      have cW := W3'.out.cell
      obtain ⟨H, hH⟩ : ∃ H : Nat, (H : Int) = x13 := ⟨x13.toNat, by omega⟩
      have HH := hid hH
      have hkH : H ≤ k := by omega
      have LS2 : Hid (¬ (k : Int) = x13 → decide (nearI (val x0 x1 x2 x3 x4 x5 x6 x7 (s0 x9 x10 D) x11 (k - H)) x11 x12) = false) := hid (fun h => by
        rcases LST.out with h2 | h2
        · exact absurd h2 h
        · rw [← hH, Int.toNat_natCast] at h2
          simpa using h2)
      go_wp2
      go_loopw [17] (fun i wr => ∃ m : Nat, k - H ≤ m ∧ m ≤ k ∧ i = .int .i64 m ∧ Rds Nn wr 3 A3 k (ints (sims x0 x1 x2 x3 x4 x5 x6 x7 (s0 x9 x10 D) (List.replicate k (x11, 0))).flatten) ∧ Blk wr (w.heap.size + 1) 42 #[.int .i64 x12, .int .i64 x13, .int .i64 x14] ∧ Below w.heap.size w wr) (fun i _ => k - (intOf i).toNat)
      case atStart => exact ⟨k - H, Nat.le_refl _, by omega, by rw [show ((k : Int) - x13) = ((k - H : Nat) : Int) by omega], R3.out, W3'.out, B3.out⟩
      case round =>
        obtain ⟨m, hm1, hm, rfl, hR, hW, hbel⟩ := hrel
        have RR := hid hR
        have WX := hid hW
        have BX := hid hbel
        have cX := hW.cell
        have LR : Hid ((sims x0 x1 x2 x3 x4 x5 x6 x7 (s0 x9 x10 D) (List.replicate k (x11, 0))).length = k) := hid (by rw [sims_len, List.length_replicate])
        clear hR hW hbel cW
        by_cases hlt : m < k
        · obtain ⟨p1, o1, rfl, hp1, _, hr1⟩ := Rds.plain RR.out (by omega) (by decide)
          obtain ⟨b, hb⟩ := sims_rep (kp := x0) (ki := x1) (sh := x2) (lo := x3) (hi := x4) (rate := x5) (ga := x6) (la := x7) (s0 x9 x10 D) x11 k m hlt
          obtain ⟨a', b', c', hrow, _, _, hc⟩ := three_at (sims_three (List.replicate k (x11, 0)) (s0 x9 x10 D)) (k := m) (by rw [LR.out]; exact hlt)
          have hq3 := hb.symm.trans hrow
          simp only [Option.some.injEq, List.cons.injEq, and_true] at hq3
          obtain ⟨q1, q2, q3⟩ := hq3
          clear q1 q2 hrow
          rw [← q3] at hc
          clear q3
          have e1 := hr1 _ _ hc
          have nr : decide (nearI (val x0 x1 x2 x3 x4 x5 x6 x7 (s0 x9 x10 D) x11 (m + 1)) x11 x12) = true := by
            have := HS.out.2 (m + 1) (by omega) (by omega)
            simpa using this
          have vb := VB.out (m + 1)
          obtain ⟨y, hy⟩ : ∃ y, val x0 x1 x2 x3 x4 x5 x6 x7 (s0 x9 x10 D) x11 (m + 1) = y := ⟨_, rfl⟩
          rw [hy] at e1 nr vb
          have NR := hid nr
          have f1 : wr.cell? ⟨p1, o1 + m * 3 + 2, none⟩ = some (.int .i64 y) := by
            rw [← e1, Nat.mul_comm]
            rfl
          clear hr1 hb hc e1 nr hy
          go_wp2_with fail
          go_region_held3 (fun w' => w'.cell? ⟨p1, o1 + m * 3 + 2, none⟩ = some (.int .i64 y) ∧ (∀ i, w'.cell? ⟨w.heap.size + 1, i, none⟩ = (#[.int .i64 x12, .int .i64 x13, .int .i64 x14] : Array Value)[i]?)) (exact ⟨f1, cX⟩) (first
            | (go_at_call 22; refine (nearB_any y x11 x12 _ vb (by omega)).mono ?_; rintro e v9 ⟨rfl, rfl⟩; rw [NR.out]))
          go_wp2
          go_roundw
          case rel => exact ⟨m + 1, by omega, by omega, by go_num, RR.out.keep ((Chg.refl Nn _).drew), WX.out.drew, Below.drew BX.out⟩
          case measure => simp [intOf]; omega
        · obtain rfl : m = k := by omega
          by_cases hk13 : (m : Int) = x13
          · subst hk13
            clear hH
            clear _h0 _h1 _h2 _h3 _h4 _h5 _h6 _h7 _h8 _h9 _h10 _h11 _h12 _h13 _h14 C1 cC_0 cC_1 cW_0 cW_1 W1 CC WW RS OW HS HN LST LS2 VB hmk HC HB HX C3 R3 W3' BB ZZ HB3 B3 ZN BN CB LR B1 RR
            go_wp2_with fail
            refine wp_region_hand (fun w' => Blk w' (w.heap.size + 1) 42 #[.int .i64 x12, .int .i64 (m : Int), .int .i64 x14]) (by kernel_rfl) ?_
            simp only [List.length_cons, List.length_nil, Nat.zero_add, Nat.reduceAdd]
            have hS : Blk wr.drew (w.heap.size + 1) 42 #[.int .i64 x12, .int .i64 (m : Int), .int .i64 x14] := WX.out
            refine take_at (i := 0) (v := ?_) rfl rfl (by kernel_rfl) (by kernel_rfl) (by kernel_rfl) (fun _ _ _ h => h) (Or.inl ⟨by rfl, ?_⟩) hS ?_
            rotate_left
            · intro w hSw; (try dsimp only at hSw); go_simp; try with_reducible rfl
            try simp only [List.setIfInBounds_toArray, List.set_cons_zero, List.set_cons_succ]
            refine take_at (i := 1) (v := ?_) rfl rfl (by kernel_rfl) (by kernel_rfl) (by kernel_rfl) (fun _ _ _ h => h) (Or.inl ⟨by rfl, ?_⟩) hS ?_
            rotate_left
            · intro w hSw; (try dsimp only at hSw); go_simp; try with_reducible rfl
            try simp only [List.setIfInBounds_toArray, List.set_cons_zero, List.set_cons_succ]
            refine take_at (i := 2) (v := ?_) rfl rfl (by kernel_rfl) (by kernel_rfl) (by kernel_rfl) (fun _ _ _ h => h) (Or.inl ⟨by rfl, ?_⟩) hS ?_
            rotate_left
            · intro wi hSw; have ci0 := hSw.cell; go_simp; try with_reducible rfl
            try simp only [List.setIfInBounds_toArray, List.set_cons_zero, List.set_cons_succ]
            refine take_at (i := 3) (v := .bool true) rfl rfl (by kernel_rfl) (by kernel_rfl) (by kernel_rfl) (fun _ _ _ h => h) (Or.inl ⟨by rfl, ?_⟩) hS ?_
            · intro wi hSw; (try have ci0 := hSw.cell); go_simp; first | done | with_reducible rfl | simp [hb13, hd13] | exact hb13 | exact hd13 | simp
            try simp only [List.setIfInBounds_toArray, List.set_cons_zero, List.set_cons_succ]
            refine take_at (i := 4) (v := ?_) rfl rfl (by kernel_rfl) (by kernel_rfl) (by kernel_rfl) (fun _ _ _ h => h) (Or.inl ⟨by rfl, ?_⟩) hS ?_
            rotate_left
            · intro w hSw; (try dsimp only at hSw); go_simp; try with_reducible rfl
            try simp only [List.setIfInBounds_toArray, List.set_cons_zero, List.set_cons_succ]
            refine take_at (i := 5) (v := undef) rfl rfl (by kernel_rfl) (by kernel_rfl) (by kernel_rfl) (fun _ _ _ h => h) (Or.inr ⟨by kernel_rfl, rfl⟩) hS ?_
            try simp only [List.setIfInBounds_toArray, List.set_cons_zero, List.set_cons_succ]
            refine take_at (i := 6) (v := undef) rfl rfl (by kernel_rfl) (by kernel_rfl) (by kernel_rfl) (fun _ _ _ h => h) (Or.inr ⟨by kernel_rfl, rfl⟩) hS ?_
            try simp only [List.setIfInBounds_toArray, List.set_cons_zero, List.set_cons_succ]
            refine take_at (i := 7) (v := undef) rfl rfl (by kernel_rfl) (by kernel_rfl) (by kernel_rfl) (fun _ _ _ h => h) (Or.inr ⟨by kernel_rfl, rfl⟩) hS ?_
            try simp only [List.setIfInBounds_toArray, List.set_cons_zero, List.set_cons_succ]
            refine take_at (i := 8) (v := undef) rfl rfl (by kernel_rfl) (by kernel_rfl) (by kernel_rfl) (fun _ _ _ h => h) (Or.inr ⟨by kernel_rfl, rfl⟩) hS ?_
            try simp only [List.setIfInBounds_toArray, List.set_cons_zero, List.set_cons_succ]
            refine take_at (i := 9) (v := undef) rfl rfl (by kernel_rfl) (by kernel_rfl) (by kernel_rfl) (fun _ _ _ h => h) (Or.inr ⟨by kernel_rfl, rfl⟩) hS ?_
            try simp only [List.setIfInBounds_toArray, List.set_cons_zero, List.set_cons_succ]
            refine take_at (i := 10) (v := undef) rfl rfl (by kernel_rfl) (by kernel_rfl) (by kernel_rfl) (fun _ _ _ h => h) (Or.inr ⟨by kernel_rfl, rfl⟩) hS ?_
            try simp only [List.setIfInBounds_toArray, List.set_cons_zero, List.set_cons_succ]
            refine take_at (i := 11) (v := undef) rfl rfl (by kernel_rfl) (by kernel_rfl) (by kernel_rfl) (fun _ _ _ h => h) (Or.inr ⟨by kernel_rfl, rfl⟩) hS ?_
            try simp only [List.setIfInBounds_toArray, List.set_cons_zero, List.set_cons_succ]
            refine take_at (i := 12) (v := undef) rfl rfl (by kernel_rfl) (by kernel_rfl) (by kernel_rfl) (fun _ _ _ h => h) (Or.inr ⟨by kernel_rfl, rfl⟩) hS ?_
            try simp only [List.setIfInBounds_toArray, List.set_cons_zero, List.set_cons_succ]
            refine take_at (i := 13) (v := undef) rfl rfl (by kernel_rfl) (by kernel_rfl) (by kernel_rfl) (fun _ _ _ h => h) (Or.inr ⟨by kernel_rfl, rfl⟩) hS ?_
            try simp only [List.setIfInBounds_toArray, List.set_cons_zero, List.set_cons_succ]
            refine take_at (i := 14) (v := undef) rfl rfl (by kernel_rfl) (by kernel_rfl) (by kernel_rfl) (fun _ _ _ h => h) (Or.inr ⟨by kernel_rfl, rfl⟩) hS ?_
            try simp only [List.setIfInBounds_toArray, List.set_cons_zero, List.set_cons_succ]
            refine take_at (i := 15) (v := undef) rfl rfl (by kernel_rfl) (by kernel_rfl) (by kernel_rfl) (fun _ _ _ h => h) (Or.inr ⟨by kernel_rfl, rfl⟩) hS ?_
            try simp only [List.setIfInBounds_toArray, List.set_cons_zero, List.set_cons_succ]
            refine take_at (i := 16) (v := undef) rfl rfl (by kernel_rfl) (by kernel_rfl) (by kernel_rfl) (fun _ _ _ h => h) (Or.inr ⟨by kernel_rfl, rfl⟩) hS ?_
            try simp only [List.setIfInBounds_toArray, List.set_cons_zero, List.set_cons_succ]
            refine take_at (i := 17) (v := undef) rfl rfl (by kernel_rfl) (by kernel_rfl) (by kernel_rfl) (fun _ _ _ h => h) (Or.inr ⟨by kernel_rfl, rfl⟩) hS ?_
            try simp only [List.setIfInBounds_toArray, List.set_cons_zero, List.set_cons_succ]
            refine take_at (i := 18) (v := undef) rfl rfl (by kernel_rfl) (by kernel_rfl) (by kernel_rfl) (fun _ _ _ h => h) (Or.inr ⟨by kernel_rfl, rfl⟩) hS ?_
            try simp only [List.setIfInBounds_toArray, List.set_cons_zero, List.set_cons_succ]
            refine take_at (i := 19) (v := .bool true) rfl rfl (by kernel_rfl) (by kernel_rfl) (by kernel_rfl) (fun _ _ _ h => h) (Or.inl ⟨by rfl, ?_⟩) hS ?_
            · intro wi hSw; (try have ci0 := hSw.cell); go_simp; first | done | with_reducible rfl | simp [hb13, hd13] | exact hb13 | exact hd13 | simp
            try simp only [List.setIfInBounds_toArray, List.set_cons_zero, List.set_cons_succ]
            refine take_at (i := 20) (v := ?_) rfl rfl (by kernel_rfl) (by kernel_rfl) (by kernel_rfl) (fun _ _ _ h => h) (Or.inl ⟨by rfl, ?_⟩) hS ?_
            rotate_left
            · intro w hSw; (try dsimp only at hSw); go_simp; try with_reducible rfl
            try simp only [List.setIfInBounds_toArray, List.set_cons_zero, List.set_cons_succ]
            refine wpAnyH_ready (rs := [21]) (by kernel_rfl) (by simp) ?_
            refine AllReadyH.cons rfl (fun K hK => ?_) AllReadyH.nil
            go_simp
            (go_at_call 14; refine (awake_any _).mono ?_; rintro e v9 ⟨rfl, hb⟩; have HB9 := hid (show Below wr.heap.size wr v9 from by first | exact hb | exact (Below.drew (Below.refl _ _)).trans hb); have X9 := hid (Blk.below WX.out HB9.out WX.out.lt); clear hb hS)
            refine hK.out _ _ X9.out (fun hS => ?_)
            clear hK K
            try simp only [Act.put, List.setIfInBounds_toArray, List.set_cons_zero, List.set_cons_succ]
            refine take_at (i := 22) (v := ?_) rfl rfl (by kernel_rfl) (by kernel_rfl) (by kernel_rfl) (fun _ _ _ h => h) (Or.inl ⟨by rfl, ?_⟩) hS ?_
            rotate_left
            · intro w hSw; (try dsimp only at hSw); go_simp; try with_reducible rfl
            try simp only [List.setIfInBounds_toArray, List.set_cons_zero, List.set_cons_succ]
            refine take_at (i := 23) (v := ?_) rfl rfl (by kernel_rfl) (by kernel_rfl) (by kernel_rfl) (fun _ _ _ h => h) (Or.inl ⟨by rfl, ?_⟩) hS ?_
            rotate_left
            · intro w hSw; (try dsimp only at hSw); go_simp; try with_reducible rfl
            try simp only [List.setIfInBounds_toArray, List.set_cons_zero, List.set_cons_succ]
            refine wpAnyH_done (by kernel_rfl) ?_ _
            simp only [Sure, Exit.then]
            clear hS
            go_wp2
            go_ret
            exact ⟨rfl, BX.out.trans (HB9.out.mono BX.out.size)⟩
          · have hj : m - H - 1 < m := by omega
            obtain ⟨p1, o1, rfl, hp1, _, hr1⟩ := Rds.plain RR.out (by omega) (by decide)
            obtain ⟨b, hb⟩ := sims_rep (kp := x0) (ki := x1) (sh := x2) (lo := x3) (hi := x4) (rate := x5) (ga := x6) (la := x7) (s0 x9 x10 D) x11 m (m - H - 1) hj
            obtain ⟨a', b', c', hrow, _, _, hc⟩ := three_at (sims_three (List.replicate m (x11, 0)) (s0 x9 x10 D)) (k := m - H - 1) (by rw [LR.out]; exact hj)
            have hq3 := hb.symm.trans hrow
            simp only [Option.some.injEq, List.cons.injEq, and_true] at hq3
            obtain ⟨q1, q2, q3⟩ := hq3
            clear q1 q2 hrow
            rw [← q3] at hc
            clear q3
            have e1 := hr1 _ _ hc
            have nr := LS2.out hk13
            have vb := VB.out (m - H)
            rw [show m - H - 1 + 1 = m - H by omega] at e1
            obtain ⟨y, hy⟩ : ∃ y, val x0 x1 x2 x3 x4 x5 x6 x7 (s0 x9 x10 D) x11 (m - H) = y := ⟨_, rfl⟩
            rw [hy] at e1 nr vb
            have NR := hid nr
            obtain ⟨z, hz⟩ : ∃ z, z = m - H - 1 := ⟨_, rfl⟩
            rw [← hz] at e1 hj
            have f1 : wr.cell? ⟨p1, o1 + z * 3 + 2, none⟩ = some (.int .i64 y) := by
              rw [← e1, Nat.mul_comm]
              rfl
            have i1 : IntKind.i64.wrap ((m : Int) - x13 - 1) = (z : Int) := by rw [IntWalk.i64_in _ (by omega)]; omega
            have i0 : IntKind.i64.wrap ((m : Int) - x13) = (m : Int) - x13 := IntWalk.i64_in _ (by omega)
            have i2 : (0 : Int) ≤ (z : Int) := by omega
            have i3 : (z : Int) < (m : Int) := by omega
            have hb13 : ((m : Int) == x13) = false := by simpa using hk13
            have hd13 : decide ((m : Int) = x13) = false := decide_eq_false hk13
            clear hr1 hb hc e1 nr hy hz hk13
            clear _h0 _h1 _h2 _h3 _h4 _h5 _h6 _h7 _h8 _h9 _h10 _h11 _h12 _h13 _h14 C1 cC_0 cC_1 cW_0 cW_1 W1 CC WW RS OW HS HN LST LS2 VB hmk HC HB HX C3 R3 W3' BB ZZ HB3 B3 ZN BN CB LR B1 RR
            go_wp2_with fail
            refine wp_region_hand (fun w' => Blk w' (w.heap.size + 1) 42 #[.int .i64 x12, .int .i64 x13, .int .i64 x14] ∧ w'.cell? ⟨p1, o1 + z * 3 + 2, none⟩ = some (.int .i64 y)) (by kernel_rfl) ?_
            simp only [List.length_cons, List.length_nil, Nat.zero_add, Nat.reduceAdd]
            have hS : Blk wr.drew (w.heap.size + 1) 42 #[.int .i64 x12, .int .i64 x13, .int .i64 x14] ∧ wr.drew.cell? ⟨p1, o1 + z * 3 + 2, none⟩ = some (.int .i64 y) := ⟨WX.out, f1⟩
            refine take_at (i := 0) (v := ?_) rfl rfl (by kernel_rfl) (by kernel_rfl) (by kernel_rfl) (fun _ _ _ h => h) (Or.inl ⟨by rfl, ?_⟩) hS ?_
            rotate_left
            · intro w hSw; (try dsimp only at hSw); go_simp; try with_reducible rfl
            try simp only [List.setIfInBounds_toArray, List.set_cons_zero, List.set_cons_succ]
            refine take_at (i := 1) (v := ?_) rfl rfl (by kernel_rfl) (by kernel_rfl) (by kernel_rfl) (fun _ _ _ h => h) (Or.inl ⟨by rfl, ?_⟩) hS ?_
            rotate_left
            · intro w hSw; (try dsimp only at hSw); go_simp; try with_reducible rfl
            try simp only [List.setIfInBounds_toArray, List.set_cons_zero, List.set_cons_succ]
            refine take_at (i := 2) (v := ?_) rfl rfl (by kernel_rfl) (by kernel_rfl) (by kernel_rfl) (fun _ _ _ h => h) (Or.inl ⟨by rfl, ?_⟩) hS ?_
            rotate_left
            · intro wi hSw; have ci0 := hSw.1.cell; go_simp; try with_reducible rfl
            try simp only [List.setIfInBounds_toArray, List.set_cons_zero, List.set_cons_succ]
            refine take_at (i := 3) (v := .bool false) rfl rfl (by kernel_rfl) (by kernel_rfl) (by kernel_rfl) (fun _ _ _ h => h) (Or.inl ⟨by rfl, ?_⟩) hS ?_
            · intro wi hSw; (try have ci0 := hSw.cell); go_simp; first | done | with_reducible rfl | simp [hb13, hd13] | exact hb13 | exact hd13 | simp
            try simp only [List.setIfInBounds_toArray, List.set_cons_zero, List.set_cons_succ]
            refine take_at (i := 4) (v := ?_) rfl rfl (by kernel_rfl) (by kernel_rfl) (by kernel_rfl) (fun _ _ _ h => h) (Or.inl ⟨by rfl, ?_⟩) hS ?_
            rotate_left
            · intro w hSw; (try dsimp only at hSw); go_simp; try with_reducible rfl
            try simp only [List.setIfInBounds_toArray, List.set_cons_zero, List.set_cons_succ]
            refine take_at (i := 5) (v := ?_) rfl rfl (by kernel_rfl) (by kernel_rfl) (by kernel_rfl) (fun _ _ _ h => h) (Or.inl ⟨by rfl, ?_⟩) hS ?_
            rotate_left
            · intro w hSw; (try dsimp only at hSw); go_simp; try with_reducible rfl
            try simp only [List.setIfInBounds_toArray, List.set_cons_zero, List.set_cons_succ]
            refine take_at (i := 6) (v := ?_) rfl rfl (by kernel_rfl) (by kernel_rfl) (by kernel_rfl) (fun _ _ _ h => h) (Or.inl ⟨by rfl, ?_⟩) hS ?_
            rotate_left
            · intro w hSw; (try dsimp only at hSw); go_simp; try with_reducible rfl
            try simp only [List.setIfInBounds_toArray, List.set_cons_zero, List.set_cons_succ]
            refine take_at (i := 7) (v := ?_) rfl rfl (by kernel_rfl) (by kernel_rfl) (by kernel_rfl) (fun _ _ _ h => h) (Or.inl ⟨by rfl, ?_⟩) hS ?_
            rotate_left
            · intro w hSw; (try dsimp only at hSw); go_simp; try with_reducible rfl
            try simp only [List.setIfInBounds_toArray, List.set_cons_zero, List.set_cons_succ]
            refine take_at (i := 8) (v := ?_) rfl rfl (by kernel_rfl) (by kernel_rfl) (by kernel_rfl) (fun _ _ _ h => h) (Or.inl ⟨by rfl, ?_⟩) hS ?_
            rotate_left
            · intro wi hSw; have ci0 := hSw.1.cell; go_simp; try with_reducible rfl
            try simp only [List.setIfInBounds_toArray, List.set_cons_zero, List.set_cons_succ]
            refine take_at (i := 9) (v := ?_) rfl rfl (by kernel_rfl) (by kernel_rfl) (by kernel_rfl) (fun _ _ _ h => h) (Or.inl ⟨by rfl, ?_⟩) hS ?_
            rotate_left
            · intro w hSw; (try dsimp only at hSw); go_simp; try with_reducible rfl
            try simp only [List.setIfInBounds_toArray, List.set_cons_zero, List.set_cons_succ]
            refine take_at (i := 10) (v := ?_) rfl rfl (by kernel_rfl) (by kernel_rfl) (by kernel_rfl) (fun _ _ _ h => h) (Or.inl ⟨by rfl, ?_⟩) hS ?_
            rotate_left
            · intro w hSw; (try dsimp only at hSw); go_simp; try with_reducible rfl
            try simp only [List.setIfInBounds_toArray, List.set_cons_zero, List.set_cons_succ]
            refine take_at (i := 11) (v := ?_) rfl rfl (by kernel_rfl) (by kernel_rfl) (by kernel_rfl) (fun _ _ _ h => h) (Or.inl ⟨by rfl, ?_⟩) hS ?_
            rotate_left
            · intro w hSw; (try dsimp only at hSw); go_simp; try with_reducible rfl
            try simp only [List.setIfInBounds_toArray, List.set_cons_zero, List.set_cons_succ]
            refine take_at (i := 12) (v := ?_) rfl rfl (by kernel_rfl) (by kernel_rfl) (by kernel_rfl) (fun _ _ _ h => h) (Or.inl ⟨by rfl, ?_⟩) hS ?_
            rotate_left
            · intro w hSw; (try dsimp only at hSw); go_simp; try with_reducible rfl
            try simp only [List.setIfInBounds_toArray, List.set_cons_zero, List.set_cons_succ]
            refine take_at (i := 13) (v := ?_) rfl rfl (by kernel_rfl) (by kernel_rfl) (by kernel_rfl) (fun _ _ _ h => h) (Or.inl ⟨by rfl, ?_⟩) hS ?_
            rotate_left
            · intro wi hSw; have ci0 := hSw.2; go_simp; try with_reducible rfl
            try simp only [List.setIfInBounds_toArray, List.set_cons_zero, List.set_cons_succ]
            refine take_at (i := 14) (v := ?_) rfl rfl (by kernel_rfl) (by kernel_rfl) (by kernel_rfl) (fun _ _ _ h => h) (Or.inl ⟨by rfl, ?_⟩) hS ?_
            rotate_left
            · intro w hSw; (try dsimp only at hSw); go_simp; try with_reducible rfl
            try simp only [List.setIfInBounds_toArray, List.set_cons_zero, List.set_cons_succ]
            refine take_at (i := 15) (v := ?_) rfl rfl (by kernel_rfl) (by kernel_rfl) (by kernel_rfl) (fun _ _ _ h => h) (Or.inl ⟨by rfl, ?_⟩) hS ?_
            rotate_left
            · intro w hSw; (try dsimp only at hSw); go_simp; try with_reducible rfl
            try simp only [List.setIfInBounds_toArray, List.set_cons_zero, List.set_cons_succ]
            refine take_at (i := 16) (v := ?_) rfl rfl (by kernel_rfl) (by kernel_rfl) (by kernel_rfl) (fun _ _ _ h => h) (Or.inl ⟨by rfl, ?_⟩) hS ?_
            rotate_left
            · intro wi hSw; have ci0 := hSw.1.cell; go_simp; try with_reducible rfl
            try simp only [List.setIfInBounds_toArray, List.set_cons_zero, List.set_cons_succ]
            refine wpAnyH_ready (rs := [17]) (by kernel_rfl) (by simp) ?_
            refine AllReadyH.cons rfl (fun K hK => ?_) AllReadyH.nil
            go_simp
            (go_at_call 22; refine (nearB_any y x11 x12 _ vb (by omega)).mono ?_; rintro e v9 ⟨rfl, rfl⟩; rw [NR.out])
            refine hK.out _ _ hS (fun hS => ?_)
            clear hK K
            try simp only [Act.put, List.setIfInBounds_toArray, List.set_cons_zero, List.set_cons_succ]
            refine take_at (i := 18) (v := .bool true) rfl rfl (by kernel_rfl) (by kernel_rfl) (by kernel_rfl) (fun _ _ _ h => h) (Or.inl ⟨by rfl, ?_⟩) hS ?_
            · intro wi hSw; (try have ci0 := hSw.cell); go_simp; first | done | with_reducible rfl | simp [hb13, hd13] | exact hb13 | exact hd13 | simp
            try simp only [List.setIfInBounds_toArray, List.set_cons_zero, List.set_cons_succ]
            refine take_at (i := 19) (v := .bool true) rfl rfl (by kernel_rfl) (by kernel_rfl) (by kernel_rfl) (fun _ _ _ h => h) (Or.inl ⟨by rfl, ?_⟩) hS ?_
            · intro wi hSw; (try have ci0 := hSw.cell); go_simp; first | done | with_reducible rfl | simp [hb13, hd13] | exact hb13 | exact hd13 | simp
            try simp only [List.setIfInBounds_toArray, List.set_cons_zero, List.set_cons_succ]
            refine take_at (i := 20) (v := ?_) rfl rfl (by kernel_rfl) (by kernel_rfl) (by kernel_rfl) (fun _ _ _ h => h) (Or.inl ⟨by rfl, ?_⟩) hS ?_
            rotate_left
            · intro w hSw; (try dsimp only at hSw); go_simp; try with_reducible rfl
            try simp only [List.setIfInBounds_toArray, List.set_cons_zero, List.set_cons_succ]
            refine wpAnyH_ready (rs := [21]) (by kernel_rfl) (by simp) ?_
            refine AllReadyH.cons rfl (fun K hK => ?_) AllReadyH.nil
            go_simp
            (go_at_call 14; refine (awake_any _).mono ?_; rintro e v9 ⟨rfl, hb⟩; have HB9 := hid (show Below wr.heap.size wr v9 from by first | exact hb | exact (Below.drew (Below.refl _ _)).trans hb); have X9 := hid (Blk.below WX.out HB9.out WX.out.lt); have f9 := (cell_below HB9.out (a := ⟨p1, o1 + z * 3 + 2, none⟩) hp1).trans f1; clear hb hS)
            refine hK.out _ _ ⟨X9.out, f9⟩ (fun hS => ?_)
            clear hK K
            try simp only [Act.put, List.setIfInBounds_toArray, List.set_cons_zero, List.set_cons_succ]
            refine take_at (i := 22) (v := ?_) rfl rfl (by kernel_rfl) (by kernel_rfl) (by kernel_rfl) (fun _ _ _ h => h) (Or.inl ⟨by rfl, ?_⟩) hS ?_
            rotate_left
            · intro w hSw; (try dsimp only at hSw); go_simp; try with_reducible rfl
            try simp only [List.setIfInBounds_toArray, List.set_cons_zero, List.set_cons_succ]
            refine take_at (i := 23) (v := ?_) rfl rfl (by kernel_rfl) (by kernel_rfl) (by kernel_rfl) (fun _ _ _ h => h) (Or.inl ⟨by rfl, ?_⟩) hS ?_
            rotate_left
            · intro w hSw; (try dsimp only at hSw); go_simp; try with_reducible rfl
            try simp only [List.setIfInBounds_toArray, List.set_cons_zero, List.set_cons_succ]
            refine wpAnyH_done (by kernel_rfl) ?_ _
            simp only [Sure, Exit.then]
            clear hS
            go_wp2
            go_ret
            exact ⟨rfl, BX.out.trans (HB9.out.mono BX.out.size)⟩
end Go.Proofs.Ytkcalkiibolceaa
