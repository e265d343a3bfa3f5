/- The reference's processes with their states. -/
import Derived.Test.YtddphdkhaaolmaaState
import Derived.StillTailTactics
namespace Go.Proofs.Ytddphdkhaaolmaa
open Go.RowKit

/-- At block b lies the reference's process with the value v; ys are all outputs given. -/
structure RSt (w : World) (b : Nat) (ga la de v : Int) (lv : Value) (ys : List Int) : Prop where
  blk : Blk w b 143 #[.int .i64 ga, .int .i64 la, .int .i64 de, .int .i64 v, lv]
  own : w.ownsRow 0 3 1 lv ys.length (ints ys)
  ap : ¬ Rw lv b
def Fr (b : Nat) (lv : Value) : Nat → Prop := fun k => k = b ∨ Rw lv k
theorem RSt.lt {w : World} {b : Nat} {ga la de v : Int} {lv : Value} {xs : List Int} (h : RSt w b ga la de v lv xs) : ∀ k, Fr b lv k → k < w.heap.size := by
  intro k hk
  rcases hk with rfl | hk
  · exact h.blk.lt
  · exact (own_blk h.own k hk).2
theorem RSt.keep {w w' : World} {b : Nat} {ga la de v : Int} {lv : Value} {xs : List Int} {S : Nat → Prop} (h : RSt w b ga la de v lv xs) (hc : Chg S w w') (hn : ∀ k, Fr b lv k → ¬ S k) : RSt w' b ga la de v lv xs :=
  ⟨h.blk.keep hc (hn b (.inl rfl)), own_keep h.own hc (fun k hk => hn k (.inr hk)), h.ap⟩
theorem RSt.below {w w' : World} {b : Nat} {ga la de v : Int} {lv : Value} {xs : List Int} (h : RSt w b ga la de v lv xs) (hc : Below w.heap.size w w') : RSt w' b ga la de v lv xs :=
  h.keep (Chg.of_below (S := Nn) hc (fun k h1 h2 => by omega)) (fun _ _ => id)
/-- Behind 's.Outs = append(s.Outs, y)'. -/
theorem rst_app {w w1 : World} {b : Nat} {ga la de v : Int} {lv v1 : Value} {xs : List Int} {y : Int} {o : Obj} (h : RSt w b ga la de v lv xs) (hown : w1.ownsRow 0 3 1 v1 (xs.length + 1) (ints xs ++ [.int .i64 y])) (hc : Chg (Rw lv) (w.alloc o) w1) (hn : Newer (w.alloc o) lv v1) :
    RSt (w1.setCell ⟨b, 4, none⟩ v1) b ga la de v v1 (xs ++ [y]) ∧ Chg (Fr b lv) w (w1.setCell ⟨b, 4, none⟩ v1) ∧ Newer w lv v1 := by
  have hlt := h.lt
  have hne : ¬ Rw v1 b := by
    intro hg
    rcases hn b hg with h1 | h1
    · exact h.ap h1
    · have := hlt b (.inl rfl); simp at h1; omega
  have c1 : Chg (Rw lv) w w1 := ((Chg.refl (Rw lv) w).alloc o).trans hc (fun _ _ => id)
  refine ⟨⟨(h.blk.keep c1 h.ap).set 4 _, ?_, hne⟩, (c1.mono (fun k _ e => .inr e)).setCell (a := ⟨b, 4, none⟩) (.inl (.inl rfl)) _, fun g hg => ?_⟩
  · have := own_keep hown (S := fun k => k = b) ((Chg.refl (fun k => k = b) w1).setCell (a := ⟨b, 4, none⟩) (.inl rfl) v1) (fun k hk e => by subst e; exact hne hk)
    simpa [ints] using this
  · rcases hn g hg with h1 | h1
    · exact .inl h1
    · simp at h1; exact .inr (by omega)
theorem rst_cells {w w1 : World} {b : Nat} {ga la de v : Int} {lv : Value} {xs : List Int} {o : Obj} (h : RSt w b ga la de v lv xs) (hc : Chg (Rw lv) (w.alloc o) w1) : Blk w1 b 143 #[.int .i64 ga, .int .i64 la, .int .i64 de, .int .i64 v, lv] := (h.blk.alloc o).keep hc h.ap
theorem rst_set {w : World} {b : Nat} {ga la de v : Int} {lv : Value} {xs : List Int} (h : RSt w b ga la de v lv xs) (v' : Int) : RSt (w.setCell ⟨b, 3, none⟩ (.int .i64 v')) b ga la de v' lv xs :=
  ⟨h.blk.set 3 _, own_keep h.own ((Chg.refl (fun k => k = b) w).setCell (a := ⟨b, 3, none⟩) (.inl rfl) _) (fun k hk e => by subst e; exact h.ap hk), h.ap⟩
theorem still_own {P : Program} {f : FuncId} {args : Array Value} {w : World} {v : Value} (h : Calls P f args w fun e w' => e = .returned v ∧ w = w') : Calls P f args w fun e w'' => e = .returned v ∧ w'' = w :=
  h.mono fun _ _ h => ⟨h.1, h.2.symm⟩
theorem rep_app (k : Nat) (x : Int) : List.replicate k x ++ [x] = List.replicate (k + 1) x := by rw [List.replicate_succ']

theorem rsnew_bad (ga la de n v : Int) (w : World) (h : newErr ga la de n v ≠ 0) : Calls Try.prog 82 #[.agg #[.int .i64 ga, .int .i64 la, .int .i64 de], .int .i64 n, .int .i64 v] w fun e w' => e = .returned (.tuple #[.pointer none, .int .i64 (newErr ga la de n v)]) ∧ Below w.heap.size w w' := by
  by_cases hc : chkP ga la de = 0
  · cases h1 : absB n 16777216
    · have R : Hid (1 = newErr ga la de n v) := hid (by simp [newErr, hc, h1])
      clear h
      go_enter Try.func82, Try.ntmps82
      go_wp2_with fail
      refine (rcheck_any _ _ _ _).mono ?_
      rintro e w1 ⟨rfl, hb⟩
      have G1 : Hid (Blk w1 w.heap.size 25 #[.int .i64 ga, .int .i64 la, .int .i64 de]) := hid (Blk.below (Blk.at_new _ (by simp)) hb (by simp))
      have B1 : Hid (Below w.heap.size w w1) := hid (Below.trans (Below.alloc (Below.refl _ _) (by simp) _) (hb.mono (by simp)))
      have cg := G1.out.cell
      clear hb
      go_wp2_with (first | (go_at_call 79; refine (rout_any _ _).mono ?_; rintro e w2 ⟨rfl, rfl⟩) | (go_at_call 76; refine (rvalue_any _ _).mono ?_; rintro e w2 ⟨rfl, rfl⟩))
      go_ret2
      exact ⟨congrArg (fun x => Ending.returned (.tuple #[.pointer none, .int .i64 x])) R.out, B1.out⟩
    · cases h2 : absB v 268435456
      · have R : Hid (1 = newErr ga la de n v) := hid (by simp [newErr, hc, h1, h2])
        clear h
        go_enter Try.func82, Try.ntmps82
        go_wp2_with fail
        refine (rcheck_any _ _ _ _).mono ?_
        rintro e w1 ⟨rfl, hb⟩
        have G1 : Hid (Blk w1 w.heap.size 25 #[.int .i64 ga, .int .i64 la, .int .i64 de]) := hid (Blk.below (Blk.at_new _ (by simp)) hb (by simp))
        have B1 : Hid (Below w.heap.size w w1) := hid (Below.trans (Below.alloc (Below.refl _ _) (by simp) _) (hb.mono (by simp)))
        have cg := G1.out.cell
        clear hb
        go_wp2_with (first | (go_at_call 79; refine (rout_any _ _).mono ?_; rintro e w2 ⟨rfl, rfl⟩) | (go_at_call 76; refine (rvalue_any _ _).mono ?_; rintro e w2 ⟨rfl, rfl⟩))
        go_ret2
        exact ⟨congrArg (fun x => Ending.returned (.tuple #[.pointer none, .int .i64 x])) R.out, B1.out⟩
      · exact absurd (by simp [newErr, hc, h1, h2]) h
  · have R : Hid (1 = newErr ga la de n v) := hid (by have := chkP_ne hc; simp [newErr, this])
    have hc1 := chkP_ne hc
    clear h
    go_enter Try.func82, Try.ntmps82
    go_wp2_with fail
    refine (rcheck_any _ _ _ _).mono ?_
    rintro e w1 ⟨rfl, hb⟩
    have G1 : Hid (Blk w1 w.heap.size 25 #[.int .i64 ga, .int .i64 la, .int .i64 de]) := hid (Blk.below (Blk.at_new _ (by simp)) hb (by simp))
    have B1 : Hid (Below w.heap.size w w1) := hid (Below.trans (Below.alloc (Below.refl _ _) (by simp) _) (hb.mono (by simp)))
    have cg := G1.out.cell
    clear hb
    go_wp2
    go_ret2
    exact ⟨congrArg (fun x => Ending.returned (.tuple #[.pointer none, .int .i64 x])) R.out, B1.out⟩


set_option maxRecDepth 100000 in
set_option maxHeartbeats 1000000 in
theorem rsnew_any (ga la de n v : Int) (w : World) (h : newErr ga la de n v = 0) : Calls Try.prog 82 #[.agg #[.int .i64 ga, .int .i64 la, .int .i64 de], .int .i64 n, .int .i64 v] w fun e w' => ∃ b lv, e = .returned (.tuple #[.pointer (some ⟨b, 0, none⟩), .int .i64 0]) ∧ RSt w' b ga la de v lv (List.replicate de.toNat n) ∧ (∀ k, Fr b lv k → w.heap.size ≤ k) ∧ Below w.heap.size w w' := by
  obtain ⟨hc, h1, h2⟩ := new_ok h
  obtain ⟨b1, b2, b3, b4, b5, b6⟩ := chkP_ok hc
  obtain ⟨D, rfl⟩ := Int.eq_ofNat_of_zero_le b5
  clear h
  go_enter Try.func82, Try.ntmps82
  go_wp2_with fail
  refine (rcheck_any _ _ _ _).mono ?_
  rintro e w1 ⟨rfl, hb⟩
  have G1 : Hid (Blk w1 w.heap.size 25 #[.int .i64 ga, .int .i64 la, .int .i64 (D : Int)]) := hid (Blk.below (Blk.at_new _ (by simp)) hb (by simp))
  have B1 : Hid (Below w.heap.size w w1) := hid (Below.trans (Below.alloc (Below.refl _ _) (by simp) _) (hb.mono (by simp)))
  have cg := G1.out.cell
  clear hb
  go_wp2_with (first | (go_at_call 79; refine (rout_any _ _).mono ?_; rintro e w2 ⟨rfl, rfl⟩) | (go_at_call 76; refine (rvalue_any _ _).mono ?_; rintro e w2 ⟨rfl, rfl⟩))
  have G2 := hid ((G1.out.alloc (.cells #[.int .i64 ga, .int .i64 la, .int .i64 (D : Int), .int .i64 v, .slice none 0 0] 143)))
  go_loopw [10] (fun i wr => ∃ (k : Nat) (lv : Value), k ≤ D ∧ i = .int .i64 k ∧ RSt wr w1.heap.size ga la (D : Int) v lv (List.replicate k n) ∧ Blk wr w.heap.size 25 #[.int .i64 ga, .int .i64 la, .int .i64 (D : Int)] ∧ (∀ g, lv.ownBlock = some g → w1.heap.size ≤ g) ∧ Below w1.heap.size w1 wr) (fun i _ => D - (intOf i).toNat)
  case atStart =>
    exact ⟨0, .slice none 0 0, Nat.zero_le _, rfl, ⟨Blk.new _ _ _, own_nil _ _ _ _, fun hg => by cases hg⟩, G2.out, (fun g hg => by cases hg), (Below.refl _ _).alloc (Nat.le_refl _) _⟩
  case round =>
    obtain ⟨k, lv, hk, rfl, hL, hG, hge, hbel⟩ := hrel
    have cS := hL.blk.cell
    have fS := hL.blk.frozen
    have cP := hG.cell
    have HL := hid hL
    have HP := hid hG
    have HG := hid hge
    have HB := hid hbel
    by_cases hlt : k < D
    · obtain ⟨A, c, rfl, _, _⟩ := own_form hL.own
      have hlw := hL.blk.lt
      clear hL hge hbel hG
      simp only [List.length_replicate] at *
      go_wp2_with (at_builtin; refine wpList_app info3 Try.underlying30 (by kernel_rfl) (by omega) (by omega) (own_keep HL.out.own ((Chg.refl Nn _).alloc _) (fun _ _ => id)) (Rds.one _ _ _) (by intro u hu; simp at hu; subst hu; rfl) (by simp; omega) rfl rfl rfl rfl ?_; intro v1 w2 hown hchg hnew; obtain ⟨A1, c1, rfl, _, _⟩ := own_form hown; have HC := hid (rst_cells HL.out hchg); have cc := HC.out.cell; have f1 := HC.out.frozen; have HE := hid (rst_app HL.out hown hchg hnew); clear hown hchg hnew)
      go_roundw
      case rel =>
        have HE := HE.out
        simp only [List.length_replicate] at HE
        obtain ⟨e1, e2, e3⟩ := HE
        rw [rep_app] at e1
        have g0 := G1.out.lt
        refine ⟨k + 1, _, by omega, by go_num, e1, HP.out.keep e2 (fun hf => ?_), fun g hg => ?_, HB.out.trans (e2.below HB.out.size (fun b hb hf => ?_))⟩
        · rcases hf with hf | hf
          · omega
          · have := HG.out _ hf; omega
        · rcases e3 g hg with h | h
          · exact HG.out g h
          · have := HB.out.size; omega
        · rcases hf with rfl | hf
          · omega
          · have := HG.out b hf; omega
      case measure => simp [intOf]; omega
    · obtain rfl : k = D := by omega
      clear hL hge hbel hG
      go_wp2
      go_ret2
      refine ⟨w1.heap.size, lv, rfl, by simpa using HL.out, fun j hj => ?_, B1.out.trans (HB.out.mono B1.out.size)⟩
      rcases hj with rfl | hj
      · exact B1.out.size
      · exact Nat.le_trans B1.out.size (HG.out j hj)

theorem rsstep_bad {b : Nat} (o d : Int) (w : World) (h : pErr o d = 1) : Calls Try.prog 84 #[.pointer (some ⟨b, 0, none⟩), .int .i64 o, .int .i64 d] w fun e w' => e = .returned (.tuple #[.int .i64 0, .int .i64 1]) ∧ w = w' := by
  cases h1 : absB o 16777216
  · clear h
    go_enter Try.func84, Try.ntmps84
    go_wp2_with (go_at_call 79; refine (rout_any _ _).mono ?_; rintro e w2 ⟨rfl, rfl⟩)
    go_ret2
    exact ⟨rfl, rfl⟩
  · by_cases h2 : d < -65536
    · clear h
      go_enter Try.func84, Try.ntmps84
      go_wp2_with (go_at_call 79; refine (rout_any _ _).mono ?_; rintro e w2 ⟨rfl, rfl⟩)
      go_ret2
      exact ⟨rfl, rfl⟩
    · by_cases h3 : 65536 < d
      · clear h
        go_enter Try.func84, Try.ntmps84
        go_wp2_with (go_at_call 79; refine (rout_any _ _).mono ?_; rintro e w2 ⟨rfl, rfl⟩)
        go_ret2
        exact ⟨rfl, rfl⟩
      · exact absurd h (by rw [pErr, if_pos (by simp [h1]; exact absB_mk (by omega) (by omega))]; omega)
set_option maxRecDepth 100000 in
set_option maxHeartbeats 1000000 in
theorem rsstep_core {b : Nat} {ga la v x : Int} {D p : Nat} {lv : Value} {ys : List Int} (o d : Int) (w : World) (h : RSt w b ga la (D : Int) v lv ys) (hc : chkP ga la (D : Int) = 0) (hl : p ≤ 1000) (hlen : ys.length = p + D) (hat : (ys ++ [o])[p]? = some x) (ho : -16777216 ≤ x ∧ x ≤ 16777216) (hv : -1125899906842624 ≤ v ∧ v ≤ 1125899906842624) (h1 : absB o 16777216 = true) (h2 : absB d 65536 = true) :
    Calls Try.prog 84 #[.pointer (some ⟨b, 0, none⟩), .int .i64 o, .int .i64 d] w fun e w' => ∃ lv', e = .returned (.tuple #[.int .i64 (v + (tgt ga x - v) / la + d), .int .i64 0]) ∧ RSt w' b ga la (D : Int) (v + (tgt ga x - v) / la + d) lv' (ys ++ [o]) ∧ Chg (Fr b lv) w w' ∧ Newer w lv lv' := by
  have c := h.blk.cell
  have f := h.blk.frozen
  have H := hid h
  have hlt := h.blk.lt
  obtain ⟨b1, b2, b3, b4, b5, b6⟩ := chkP_ok hc
  have hd := absB_true h2
  obtain ⟨A, cp, rfl, q1, q2⟩ := own_form h.own
  have hn : ys.length ≤ 2000 := by omega
  have HLEN := hid hlen
  have HAT := hid hat
  clear h hlen hat
  go_enter Try.func84, Try.ntmps84
  go_wp2_with fail
  refine (rout_any _ _).mono ?_
  rintro e w2 ⟨rfl, rfl⟩
  go_wp2_with (at_builtin; refine wpList_app info3 Try.underlying30 (by kernel_rfl) (by omega) (by omega) (own_keep H.out.own ((Chg.refl Nn _).alloc _) (fun _ _ => id)) (Rds.one _ _ _) (by intro u hu; simp at hu; subst hu; rfl) (by omega) rfl rfl rfl rfl ?_; intro v1 w1 hown hchg hnew; have HC := hid (rst_cells H.out hchg); have c1 := HC.out.cell; have f1 := HC.out.frozen; have HE := hid (rst_app H.out hown hchg hnew); obtain ⟨g, cp1, rfl, q3, q4⟩ := own_pos hown (by omega); clear hown hchg hnew)
  have HR := hid HE.out.1
  clear c1 f1
  have ho2 := HR.out.own
  simp only [List.length_append, List.length_singleton] at ho2
  obtain ⟨m, hm⟩ : ∃ m : Int, m = (ys.length : Int) := ⟨_, rfl⟩
  have hlen := HLEN.out
  generalize hn1 : ys.length + 1 = n1 at HR HE ho2 ⊢
  generalize hw2 : w1.setCell ⟨b, 4, none⟩ (.slice (some ⟨g, 0, none⟩) n1 cp1) = w2 at HR HE ho2 ⊢
  have c2 := HR.out.blk.cell
  have f2 := HR.out.blk.frozen
  have cg : w2.cell? ⟨g, p, none⟩ = some (.int .i64 x) := by
    have h3 := ho2.cellAt p (by omega)
    rw [h3, ints_get, HAT.out]; rfl
  have i1 : IntKind.i64.wrap ((n1 : Int) - 1) = m := by rw [IntWalk.i64_in _ (by omega)]; omega
  have i3 : IntKind.i64.wrap (m - (D : Int)) = (p : Int) := by rw [IntWalk.i64_in _ (by omega)]; omega
  have i4 : (p : Int) < (n1 : Int) := by omega
  have i5 : (0 : Int) ≤ (p : Int) := by omega
  have i6 : p < n1 := by omega
  have HM := hid hm
  clear hm hlen
  clear hn1 hw2
  go_region_held3 (fun w' => (∀ i, w'.cell? ⟨b, i, none⟩ = (#[.int .i64 ga, .int .i64 la, .int .i64 (D : Int), .int .i64 v, .slice (some ⟨g, 0, none⟩) n1 cp1] : Array Value)[i]?) ∧ w'.cell? ⟨g, p, none⟩ = some (.int .i64 x)) (first | exact ⟨c2, cg⟩ | exact s3) (first
    | (go_at_call 78; refine (rtarget_any ga la (D : Int) x _ b1 b2 (by omega) (by omega)).mono ?_; rintro e w3 ⟨rfl, hb⟩; have HB := hid ((Below.drew (Below.refl w2.heap.size w2)).trans hb); have H3 := hid (HR.out.below HB.out); have s3 := And.intro H3.out.blk.cell ((HB.out.cell (p := ⟨g, p, none⟩) (World.block_lt_of_cell? _ _ cg)).trans cg)))
  have c3 := H3.out.blk.cell
  have f3 := H3.out.blk.frozen
  clear s3 c2 f2 c f cg
  have ht := tgt_bd (n := x) b1 b2 (by omega) (by omega)
  obtain ⟨T, hT⟩ : ∃ T, tgt ga x = T := ⟨_, rfl⟩
  rw [hT] at ht ⊢
  have TT := hid hT
  clear hT
  have hq := quo_bnd (T - v) la
  have w1a : IntKind.i64.wrap (T - v) = T - v := IntWalk.i64_in _ (by omega)
  have w1b : IntKind.i64.wrap (v + (T - v) / la) = v + (T - v) / la := IntWalk.i64_in _ (by omega)
  have w1c : IntKind.i64.wrap (v + (T - v) / la + d) = v + (T - v) / la + d := IntWalk.i64_in _ (by omega)
  go_wp2_with fail
  refine wp_region_still_tail 20 (by kernel_rfl) (by kernel_rfl) ?_
  simp only [List.take_succ_cons, List.take_zero, List.drop_succ_cons, List.drop_zero]
  repeat still_step
  still_call (still_own (rdown_any (T - v) la _ b3 (by omega) (by omega) (by omega)))
  repeat still_step
  try refine wpStill_nil ?_
  have CC := hid ((HE.out.2.1.trans (Chg.of_below (S := Nn) HB.out (fun k k1 k2 => by omega)) (fun _ _ hk => hk.elim)).drew)
  have H4 := hid (H3.out.keep ((Chg.refl Nn w3).drew) (fun _ _ => id))
  change wpList _ _ _ _ _ w3.drew
  generalize w3.drew = w4 at H4 CC ⊢
  clear c3 f3
  have c4 := H4.out.blk.cell
  have f4 := H4.out.blk.frozen
  have HN := hid HE.out.2.2
  have HS := hid (rst_set H4.out (v + (T - v) / la + d))
  have HZ := hid ((H4.out.blk.set 3 (.int .i64 (v + (T - v) / la + d))).cell)
  have c5 := HZ.out
  simp only [List.setIfInBounds_toArray, List.set_cons_zero, List.set_cons_succ] at c5
  go_wp2
  go_ret2
  rw [TT.out]
  exact ⟨_, rfl, HS.out, CC.out.setCell (a := ⟨b, 3, none⟩) (.inl (.inl rfl)) _, HN.out⟩
theorem rsstep_ok {b : Nat} {ga la v : Int} {lv : Value} {pre xs : List Int} (o d : Int) (w : World) (h : RSt w b ga la (xs.length : Int) v lv (pre ++ xs)) (hc : chkP ga la (xs.length : Int) = 0) (hl : pre.length ≤ 1000) (hx : OkL xs) (hv : -1125899906842624 ≤ v ∧ v ≤ 1125899906842624) (h1 : absB o 16777216 = true) (h2 : absB d 65536 = true) :
    Calls Try.prog 84 #[.pointer (some ⟨b, 0, none⟩), .int .i64 o, .int .i64 d] w fun e w' => ∃ lv', e = .returned (.tuple #[.int .i64 (v + (tgt ga (outOf xs o) - v) / la + d), .int .i64 0]) ∧ RSt w' b ga la (xs.length : Int) (v + (tgt ga (outOf xs o) - v) / la + d) lv' (pre ++ xs ++ [o]) ∧ Chg (Fr b lv) w w' ∧ Newer w lv lv' :=
  rsstep_core (p := pre.length) o d w h hc hl (by simp) (by rcases xs with _ | ⟨x, xs⟩ <;> simp [outOf]) (okl_out hx h1) hv h1 h2
end Go.Proofs.Ytddphdkhaaolmaa
