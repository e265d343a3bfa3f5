/- ProcessSteady. -/
import Derived.Test.YtiphcdjfmihliaaPlain26
import Derived.Deep.DeepCutAuto
namespace Go.Proofs.Ytiphcdjfmihliaa
open Go.RowKit

theorem tgt_bd2 {ga n : Int} (h1 : 1 ≤ ga) (h2 : ga ≤ 4096) (h : -16777216 ≤ n ∧ n ≤ 16777216) : -268435456 ≤ tgt ga n ∧ tgt ga n ≤ 268435456 := by
  have m := mul_bd (a := ga) (A := 4096) (b := n) (B := 16777216) (by omega) h2 h.1 h.2
  unfold tgt
  omega
theorem tgt_ok {ga la de n : Int} (h : tgtErr ga la de n = 0) : chkP ga la de = 0 ∧ absB n 16777216 = true := by
  unfold tgtErr at h
  split at h
  · rename_i hq; exact absurd h hq
  · rename_i hq
    split at h
    · rename_i hb; exact ⟨by simpa using hq, hb⟩
    · cases h
/-- A step at rest. -/
theorem steady_step {b lb : Nat} {ga la v x : Int} {D : Nat} {lv : Value} (w : World) (h : PSt w b ga la (D : Int) v lb lv (List.replicate D x)) (hc : chkP ga la (D : Int) = 0) (hx : absB x 16777216 = true) (hv : tgt ga x = v) :
    Calls Try.prog 19 #[.pointer (some ⟨b, 0, none⟩), .int .i64 x, .int .i64 0] w fun e w' => e = .returned (.tuple #[.int .i64 v, .int .i64 0]) ∧ PSt w' b ga la (D : Int) v lb lv (List.replicate D x) ∧ Chg (Fs b lb lv) w w' := by
  have hk := chkP_ok hc
  have ht := tgt_bd2 hk.1 hk.2.1 (absB_true hx)
  refine (pstep_ok x 0 w h hc (by simp; omega) (okl_rep hx) (by omega) hx rfl).mono ?_
  rw [out_rep, push_rep, hv, show v + ((v - v) / la + 0) = v by simp]
  intro e w' hh
  exact hh
set_option maxRecDepth 100000 in
set_option maxHeartbeats 8000000 in
theorem processSteady_walk (x0 : Int) (x1 : Int) (x2 : Int) (x3 : Int) (x4 : Int) (x5 : Int) (x6 : Int) (w : World) (_h0 : (Lit.int .i64 x0).wf = true) (_h1 : (Lit.int .i64 x1).wf = true) (_h2 : (Lit.int .i64 x2).wf = true) (_h3 : (Lit.int .i64 x3).wf = true) (_h4 : (Lit.int .i64 x4).wf = true) (_h5 : (Lit.int .i64 x5).wf = true) (h6 : (Lit.int .u8 x6).wf = true) :
    Calls Try.prog 9 #[.agg #[.int .i64 x0, .int .i64 x1, .int .i64 x2], .agg #[.int .i64 x3, .int .i64 x4, .int .i64 x5], .int .u8 x6] w fun e w' => e = .returned (.bool true) ∧ Below w.heap.size w w' := by
  by_cases he : tgtErr x0 x1 x2 x3 = 0
  · obtain ⟨NK, N1⟩ := tgt_ok he
    obtain ⟨D, rfl⟩ := Int.eq_ofNat_of_zero_le (chkP_ok NK).2.2.2.2.1
    go_enter Try.func9, Try.ntmps9
    go_wp2_with fail
    go_cut [7, 8] (fun v7 v8 wx => ∃ A : Nat, v7 = .int .i64 x3 ∧ v8 = .pointer (some ⟨A, 0, none⟩) ∧ Blk wx w.heap.size 23 #[.int .i64 x0, .int .i64 x1, .int .i64 ((D : Int))] ∧ Blk wx A 30 #[.int .i64 x4, .int .i64 x5] ∧ w.heap.size + 2 ≤ A ∧ Below w.heap.size w wx)
    case first =>
      have X0 : Hid (Blk ((w.alloc (.cells #[.int .i64 x0, .int .i64 x1, .int .i64 ((D : Int))] 23)).alloc (.cells #[.int .i64 x3, .int .i64 x4, .int .i64 x5] 48)) (w.heap.size + 1) 48 #[.int .i64 x3, .int .i64 x4, .int .i64 x5]) := hid (Blk.at_new _ (by simp))
      have G0 : Hid (Blk ((w.alloc (.cells #[.int .i64 x0, .int .i64 x1, .int .i64 ((D : Int))] 23)).alloc (.cells #[.int .i64 x3, .int .i64 x4, .int .i64 x5] 48)) w.heap.size 23 #[.int .i64 x0, .int .i64 x1, .int .i64 ((D : Int))]) := hid (Blk.alloc (Blk.at_new _ rfl) _)
      have cX := X0.out.cell
      go_region_held3 (fun w' => ∀ i, w'.cell? ⟨w.heap.size + 1, i, none⟩ = (#[.int .i64 x3, .int .i64 x4, .int .i64 x5] : Array Value)[i]?) (first | exact cX | exact (Blk.alloc X0.out _).cell | exact (Blk.other (Blk.other (Blk.alloc X0.out _) (by simp) _) (by simp) _).cell) (fail)
      all_goals go_wp2_with fail
      all_goals go_meet
      all_goals first | exact ⟨_, rfl, rfl, Blk.alloc G0.out _, Blk.at_new _ (by simp), by simp <;> omega, Below.drew (Below.alloc (Below.alloc (Below.alloc (Below.refl _ _) (Nat.le_refl _) _) (by simp) _) (by simp <;> omega) _)⟩ | exact ⟨_, rfl, rfl, Blk.other (Blk.other (Blk.alloc G0.out _) (by simp <;> omega) _) (by simp <;> omega) _, Blk.set (Blk.set (Blk.at_new _ rfl) 0 _) 1 _, by simp <;> omega, Below.setCell (Below.setCell (Below.alloc (Below.drew (Below.alloc (Below.alloc (Below.refl _ _) (Nat.le_refl _) _) (by simp) _)) (by simp <;> omega) _) (by simp <;> omega) _) (by simp <;> omega) _⟩
    case rest =>
      obtain ⟨A, rfl, rfl, hG, hA, hge, hbel⟩ := hcut
      have HG := hid hG
      have HA := hid hA
      have GE := hid hge
      have HB := hid hbel
      have cG := hG.cell
      have cA := hA.cell
      clear hG hA hge hbel
      have kk := chkP_ok NK
      have tb := tgt_bd2 (n := x3) kk.1 kk.2.1 (absB_true N1)
      have tn : tgtN x0 x1 D x3 = tgt x0 x3 := by unfold tgtN; rw [if_pos he]
      obtain ⟨V, hV⟩ : ∃ V, tgt x0 x3 = V := ⟨_, rfl⟩
      rw [hV] at tb tn
      have HV := hid hV
      have TN := hid tn
      have TE := hid he
      clear he hV tn
      go_wp2_with fail
      refine (Target_any _ _ _ _ _).mono ?_
      rintro e w1 ⟨rfl, hb⟩
      have G1 := hid (HG.out.below hb HG.out.lt)
      have A1 := hid (HA.out.below hb HA.out.lt)
      have B1 := hid (HB.out.trans (hb.mono HB.out.size))
      clear hb cG cA
      have cG := G1.out.cell
      rw [TN.out, TE.out]
      have ne : newErr x0 x1 D x3 V = 0 := by unfold newErr; rw [if_neg (by omega), N1, absB_mk (n := V) (m := 268435456) (by omega) (by omega)]; rfl
      have NE := hid ne
      clear ne
      go_wp2_with fail
      refine (pnew_any _ _ _ _ _ _ NE.out).mono ?_
      rintro e w2 ⟨b, lb, lv, rfl, hp, hpg, hb⟩
      have hp2 : PSt w2 b x0 x1 (D : Int) V lb lv (List.replicate D x3) := by simpa using hp
      have P2 := hid hp2
      have A2 := hid (A1.out.below hb A1.out.lt)
      have NA : Hid (¬ Fs b lb lv A) := hid (fun hf => by have h1 := hpg _ hf; have h2 := A1.out.lt; omega)
      have NW : Hid (∀ j, j < w.heap.size → ¬ Fs b lb lv j) := hid (fun j hj hf => by have h1 := hpg _ hf; have h2 := B1.out.size; omega)
      have B2 := hid (B1.out.trans (hb.mono B1.out.size))
      clear hp hp2 hpg hb cG
      have hu : 0 ≤ x6 ∧ x6 ≤ 255 := by
        have := h6
        simp only [Lit.wf, Bool.and_eq_true, decide_eq_true_eq] at this
        exact ⟨this.1, this.2⟩
      go_wp2
      go_loopw [13] (fun i wr => ∃ k : Nat, (k : Int) ≤ x6 % 40 ∧ i = .int .i64 k ∧ PSt wr b x0 x1 (D : Int) V lb lv (List.replicate D x3) ∧ Blk wr A 30 #[.int .i64 x4, .int .i64 x5] ∧ Below w.heap.size w wr) (fun i _ => (x6 % 40).toNat - (intOf i).toNat)
      case atStart => exact ⟨0, by omega, rfl, P2.out, A2.out, B2.out⟩
      case round =>
        obtain ⟨k, hk, rfl, hP, hA, hbel⟩ := hrel
        have P := hid hP
        have AA := hid hA
        have BB := hid hbel
        have cA := hA.cell
        clear hP hA hbel
        by_cases hlt : (k : Int) < x6 % 40
        · go_wp2_with fail
          refine (steady_step _ P.out NK N1 HV.out).mono ?_
          rintro e w5 ⟨rfl, hp, hc⟩
          have P5 := hid hp
          have A5 := hid (AA.out.keep hc NA.out)
          have B5 := hid (hc.then_below BB.out NW.out BB.out.size)
          clear hp hc cA
          go_wp2
          go_roundw
          case rel => exact ⟨k + 1, by omega, by go_num, P5.out, A5.out, B5.out⟩
          case measure => simp [intOf]; omega
        · rcases perr_cases x4 x5 with ⟨he, a1, a2⟩ | he
          · have r1 := absB_true a1
            have r2 := absB_true a2
            clear he a1 a2
            go_wp2_with fail
            refine (awake_any _).mono ?_
            rintro e w9 ⟨rfl, hb⟩
            go_wp2
            go_ret
            exact ⟨rfl, BB.out.trans (hb.mono BB.out.size)⟩
          · have PE := hid he
            clear he
            go_wp2_with fail
            all_goals first
              | (exfalso; exact absurd PE.out (by rw [pErr, absB_mk (n := x4) (m := 16777216) (by omega) (by omega), absB_mk (n := x5) (m := 65536) (by omega) (by omega)]; decide))
              | (refine (pstep_bad (b := b) x4 x5 _ PE.out).mono ?_; rintro e w5 ⟨rfl, rfl⟩; go_wp2_with fail; refine (steady_step _ P.out NK N1 HV.out).mono ?_; rintro e w6 ⟨rfl, hp, hc⟩; have B6 := hid (hc.then_below BB.out NW.out BB.out.size); clear hp hc cA; go_wp2_with (go_at_call 16; refine (awake_any _).mono ?_; rintro e w9 ⟨rfl, hb⟩); go_ret; exact ⟨rfl, B6.out.trans (hb.mono B6.out.size)⟩)
  · go_enter Try.func9, Try.ntmps9
    go_wp2_with fail
    go_cut [7, 8] (fun v7 v8 wx => ∃ A : Nat, v7 = .int .i64 x3 ∧ v8 = .pointer (some ⟨A, 0, none⟩) ∧ Blk wx w.heap.size 23 #[.int .i64 x0, .int .i64 x1, .int .i64 x2] ∧ Blk wx A 30 #[.int .i64 x4, .int .i64 x5] ∧ w.heap.size + 2 ≤ A ∧ Below w.heap.size w wx)
    case first =>
      have X0 : Hid (Blk ((w.alloc (.cells #[.int .i64 x0, .int .i64 x1, .int .i64 x2] 23)).alloc (.cells #[.int .i64 x3, .int .i64 x4, .int .i64 x5] 48)) (w.heap.size + 1) 48 #[.int .i64 x3, .int .i64 x4, .int .i64 x5]) := hid (Blk.at_new _ (by simp))
      have G0 : Hid (Blk ((w.alloc (.cells #[.int .i64 x0, .int .i64 x1, .int .i64 x2] 23)).alloc (.cells #[.int .i64 x3, .int .i64 x4, .int .i64 x5] 48)) w.heap.size 23 #[.int .i64 x0, .int .i64 x1, .int .i64 x2]) := hid (Blk.alloc (Blk.at_new _ rfl) _)
      have cX := X0.out.cell
      go_region_held3 (fun w' => ∀ i, w'.cell? ⟨w.heap.size + 1, i, none⟩ = (#[.int .i64 x3, .int .i64 x4, .int .i64 x5] : Array Value)[i]?) (first | exact cX | exact (Blk.alloc X0.out _).cell | exact (Blk.other (Blk.other (Blk.alloc X0.out _) (by simp) _) (by simp) _).cell) (fail)
      all_goals go_wp2_with fail
      all_goals go_meet
      all_goals first | exact ⟨_, rfl, rfl, Blk.alloc G0.out _, Blk.at_new _ (by simp), by simp <;> omega, Below.drew (Below.alloc (Below.alloc (Below.alloc (Below.refl _ _) (Nat.le_refl _) _) (by simp) _) (by simp <;> omega) _)⟩ | exact ⟨_, rfl, rfl, Blk.other (Blk.other (Blk.alloc G0.out _) (by simp <;> omega) _) (by simp <;> omega) _, Blk.set (Blk.set (Blk.at_new _ rfl) 0 _) 1 _, by simp <;> omega, Below.setCell (Below.setCell (Below.alloc (Below.drew (Below.alloc (Below.alloc (Below.refl _ _) (Nat.le_refl _) _) (by simp) _)) (by simp <;> omega) _) (by simp <;> omega) _) (by simp <;> omega) _⟩
    case rest =>
      obtain ⟨A, rfl, rfl, hG, hA, hge, hbel⟩ := hcut
      have HG := hid hG
      have HA := hid hA
      have GE := hid hge
      have HB := hid hbel
      have cG := hG.cell
      have cA := hA.cell
      clear hG hA hge hbel
      have HE := hid he
      go_wp2_with fail
      refine (Target_any _ _ _ _ _).mono ?_
      rintro e w1 ⟨rfl, hb⟩
      have B1 := hid (HB.out.trans (hb.mono HB.out.size))
      clear hb
      have z1 : tgtN x0 x1 x2 x3 = 0 := by unfold tgtN; rw [if_neg HE.out]
      have hz : (tgtErr x0 x1 x2 x3 != 0) = true := by simpa using HE.out
      rw [z1]
      clear z1
      go_wp2_with (go_at_call 16; refine (awake_any _).mono ?_; rintro e w9 ⟨rfl, hb⟩)
      all_goals go_ret
      all_goals exact ⟨rfl, B1.out.trans (hb.mono B1.out.size)⟩
end Go.Proofs.Ytiphcdjfmihliaa
