/- SlitPattern: for every input the law returns true. No condition. -/
import Derived.Test.YtccgbojcghbdcaaLaw39
import Derived.Test.YtccgbojcghbdcaaSPlain
namespace Go.Proofs.Ytccgbojcghbdcaa
open Go.RowKit

/-- What the strips of a pattern that fits are. -/
structure StOk (W E D : Int) (S : List (List Int)) : Prop where
  two : ∀ s ∈ S, s.length = 2
  side : contig E S
  sum : sumW S = D
  len : 1 ≤ S.length ∧ S.length ≤ 12
  e : 0 ≤ E
  w : 1 ≤ W ∧ W ≤ 12000
  fit : E + D ≤ W
theorem st_of {W E T J : Int} {zs cs : List Int} (h : ftErr W E T J zs cs = 0) : stripL W E T J zs cs = strips E cs zs ∧ StOk W E (dot cs zs) (strips E cs zs) ∧ ((strips E cs zs).length : Int) = sumI cs ∧ lfV W E T J zs cs = W - 2 * E - dot cs zs ∧ (∀ n ∈ cs, 0 ≤ n) ∧ sumI cs ≤ 12 ∧ 0 ≤ dot cs zs := by
  obtain ⟨hc, hf⟩ := ft_ok h
  have R := dk_right (chk_ok hc).1
  obtain ⟨f1, f2, f3, f4, f5, f6⟩ := fit_ok hf
  have L := strips_len cs zs E f2 f1
  have P := sumI_nonneg f2
  have k := R.k
  have e := R.e
  have hw := R.w
  have C := strips_contig cs zs E (fun z hz => (R.z z hz).1)
  have Q := strips_sum cs zs E f2 f1
  have N := sumW_pos C
  unfold us at f5
  refine ⟨by unfold stripL; rw [if_pos h], ⟨strips_two cs zs E, C, Q, by omega, e.1, hw, by omega⟩, L, by unfold lfV; rw [if_pos h]; unfold us; rfl, f2, by omega, by omega⟩
theorem StOk.chk {W E D : Int} {S : List (List Int)} (h : StOk W E D S) : slErr W S = 0 := by
  unfold slErr
  have h1 := h.len
  have h2 := h.w
  rw [if_neg (fun e => e h2), if_neg (by omega), if_neg (fun e => e (contig_lies h.side h.e (by rw [h.sum]; exact h.fit))), if_neg (fun e => e (contig_apart h.side))]
theorem StOk.trim {W E D : Int} {S : List (List Int)} (h : StOk W E D S) : trimL W S = trims W 0 S ∧ sumW (trims W 0 S) = W - D := by
  refine ⟨by unfold trimL; rw [if_pos h.chk], ?_⟩
  rw [trims_sum h.side h.e h.len.1 (by rw [h.sum]; exact h.fit), h.sum]
theorem trims_pos (W : Int) : ∀ (l : List (List Int)) (a : Int), ∀ s ∈ trims W a l, 1 ≤ s.getD 1 0
  | [], a => by
    intro s hs
    unfold trims at hs
    split at hs
    · rename_i hw; simp at hs; subst hs; show 1 ≤ W - a; omega
    · cases hs
  | t :: l, a => by
    intro s hs
    unfold trims at hs
    rcases List.mem_append.1 hs with hs | hs
    · split at hs
      · rename_i hw; simp at hs; subst hs; show 1 ≤ t.getD 0 0 - a; omega
      · cases hs
    · exact trims_pos W l _ s hs
theorem sumW_ge : ∀ {l : List (List Int)}, (∀ s ∈ l, 1 ≤ s.getD 1 0) → 0 ≤ sumW l
  | [], _ => by simp [sumW]
  | s :: l, h => by
    have h1 := sumW_ge (l := l) (fun q hq => h q (by simp [hq]))
    have h2 := h s (by simp)
    simp only [sumW]
    omega
theorem sl_drop {α : Type} {l : List α} {k : Nat} {y : α} (h : l[k]? = some y) : l.drop k = y :: l.drop (k + 1) := by
  obtain ⟨h1, h2⟩ := List.getElem?_eq_some_iff.1 h
  rw [List.drop_eq_getElem_cons h1, h2]
set_option linter.unusedSimpArgs false in
set_option maxRecDepth 100000 in
set_option maxHeartbeats 16000000 in
theorem slitPattern_in (W E T J : Int) (a a2 : Option Addr) (c c2 n n2 : Nat) (zs cs : List Int) (w : World) (r : Rds Nn w 1 a n (ints zs)) (r2 : Rds Nn w 1 a2 n2 (ints cs)) (hn : n = zs.length) (hn2 : n2 = cs.length) (hl : n ≤ maxLen) : Calls Try.prog 10 #[.agg #[.int .i64 W, .int .i64 E, .int .i64 T, .int .i64 J, .slice a n c], .slice a2 n2 c2] w fun e w' => e = .returned (.bool true) ∧ Below w.heap.size w w' := by
  have R1 := hid r
  have R2 := hid r2
  have HN := hid hn
  have HM := hid hn2
  clear r r2 hn hn2
  have D0 := hid (Blk.at_new w (b := w.heap.size) (t := 32) (cs := #[.int .i64 W, .int .i64 E, .int .i64 T, .int .i64 J, .slice a n c]) rfl)
  have B0 := hid ((Below.refl w.heap.size w).alloc (Nat.le_refl _) (.cells #[.int .i64 W, .int .i64 E, .int .i64 T, .int .i64 J, .slice a n c] 32))
  have c0 := D0.out.cell
  go_enter Try.func10, Try.ntmps10
  by_cases h12 : n ≤ 12
  rotate_left
  · have h21 : ((12 : Int) < n) := by omega
    go_wp2_with fail
    refine (awake_any _).mono ?_
    rintro e wz ⟨rfl, hb⟩
    go_wp2
    go_ret
    exact ⟨rfl, B0.out.trans (hb.mono B0.out.size)⟩
  have h21 : ¬ ((12 : Int) < n) := by omega
  by_cases h13 : n2 ≤ 12
  rotate_left
  · have h22 : ((12 : Int) < n2) := by omega
    go_wp2_with fail
    refine (awake_any _).mono ?_
    rintro e wz ⟨rfl, hb⟩
    go_wp2
    go_ret
    exact ⟨rfl, B0.out.trans (hb.mono B0.out.size)⟩
  have h22 : ¬ ((12 : Int) < n2) := by omega
  go_wp2_with (refine wpList_load_blk2 (t := 32) rfl rfl rfl Try.underlying32 rfl (by kernel_rfl) D0.out ?_)
  refine (strips_any W E T J a a2 c c2 n n2 zs cs _ (R1.out.below B0.out) (R2.out.below B0.out) HN.out HM.out hl (by omega)).mono ?_
  rintro e w1 ⟨A1, c1, rfl, hr, hb⟩
  have RA := hid hr
  have B1 := hid (B0.out.trans (hb.mono B0.out.size))
  have D1 := hid (D0.out.below hb D0.out.lt)
  clear hb hr c0
  go_wp2_with (refine wpList_load_blk2 (t := 32) rfl rfl rfl Try.underlying32 rfl (by kernel_rfl) D1.out ?_)
  refine (left_any W E T J a a2 c c2 n n2 zs cs _ (R1.out.below B1.out) (R2.out.below B1.out) HN.out HM.out hl (by omega)).mono ?_
  rintro e w2 ⟨rfl, hb⟩
  have RA2 := hid (RA.out.below hb)
  have B2 := hid (B1.out.trans (hb.mono B1.out.size))
  have D2 := hid (D1.out.below hb D1.out.lt)
  clear hb RA D1 B1
  by_cases hz : ftErr W E T J zs cs = 0
  rotate_left
  · have hz2 : (ftErr W E T J zs cs != 0) = true := by simpa using hz
    have e0 : (stripL W E T J zs cs).length = 0 := by unfold stripL; rw [if_neg hz]; rfl
    rw [e0]
    clear RA2 e0
    go_wp2_with fail
    refine (awake_any _).mono ?_
    rintro e wz ⟨rfl, hb⟩
    go_wp2
    go_ret
    exact ⟨rfl, B2.out.trans (hb.mono B2.out.size)⟩
  obtain ⟨g1, g2, g3, g4, g5, g6, g7⟩ := st_of hz
  rw [hz, g1, g4]
  have RS := hid (by have := RA2.out; rw [g1] at this; exact this)
  have SO := hid g2
  have CP := hid g5
  clear RA2 g1 g2 g4 g5 hz
  obtain ⟨S, hS⟩ : ∃ S, strips E cs zs = S := ⟨_, rfl⟩
  obtain ⟨D, hD⟩ : ∃ D, dot cs zs = D := ⟨_, rfl⟩
  obtain ⟨N, hN⟩ : ∃ N, S.length = N := ⟨_, rfl⟩
  rw [hS, hD] at SO
  rw [hS] at RS g3 ⊢
  rw [hD] at g7 ⊢
  obtain ⟨LF, hLF⟩ : ∃ LF, W - 2 * E - D = LF := ⟨_, rfl⟩
  rw [hLF]
  have HLF := hid hLF
  clear hLF
  rw [hN] at RS g3 ⊢
  have HNS := hid hN
  clear hS hD hN
  have so1 := SO.out.e
  obtain ⟨so2, so3⟩ := SO.out.w
  have so4 := SO.out.fit
  have G3 := hid g3
  have n12 : N ≤ 12 := by have := SO.out.len.2; have := HNS.out; omega
  have c2' := D2.out.cell
  clear g3
  go_wp2
  clear c2'
  go_loopw [9, 11] (fun u i wr => ∃ (k : Nat) (x : Int), k ≤ N ∧ i = .int .i64 k ∧ u = .int .i64 x ∧ contig x (S.drop k) ∧ x + sumW (S.drop k) = E + D ∧ 0 ≤ x ∧ Below w2.heap.size w2 wr) (fun _ i _ => N - (intOf i).toNat)
  case atStart => exact ⟨0, E, Nat.zero_le _, rfl, rfl, SO.out.side, by have := SO.out.sum; simp only [List.drop_zero]; omega, so1, Below.refl _ _⟩
  case round =>
    obtain ⟨k, x, hk, rfl, rfl, hct, hsm, hx0, hbel⟩ := hrel
    have BB := hid hbel
    clear hbel
    by_cases hlt : k < N
    · obtain ⟨p1, o1, y, z, rfl, _, hpq, hc⟩ := cells_at RS.out SO.out.two HNS.out.symm hlt
      obtain ⟨e1, e2⟩ := hc _ BB.out
      rw [sl_drop hpq] at hct hsm
      obtain ⟨d1, d2, d3⟩ := hct
      simp only [List.getD_cons_zero, List.getD_cons_succ] at d1 d2 d3
      simp only [sumW, List.getD_cons_zero, List.getD_cons_succ] at hsm
      subst d1
      have CT := hid d3
      have SM := hid hsm
      have hps := sumW_pos d3
      have wk1 : IntKind.i64.wrap ((k : Int) + 1) = k + 1 := IntWalk.i64_in _ (by omega)
      have wk2 : IntKind.i64.wrap (y + z) = y + z := IntWalk.i64_in _ (by omega)
      have hz1 : ¬ (z < 1) := by omega
      clear hc hpq d3 hsm
      go_wp2
      go_roundw
      case rel => exact ⟨k + 1, y + z, by omega, by go_num, rfl, CT.out, by have := SM.out; omega, by omega, BB.out⟩
      case measure => simp [intOf]; omega
    · obtain rfl : N = k := by omega
      have hx : x = E + D := by rw [List.drop_eq_nil_of_le (by have := HNS.out; omega)] at hsm; simpa [sumW] using hsm
      subst hx
      clear hct hsm
      have B3 := hid (B2.out.trans (BB.out.mono B2.out.size))
      go_wp2
      go_loopw [10, 12] (fun u i ws => ∃ (j : Nat) (v : Int), j ≤ n2 ∧ i = .int .i64 j ∧ u = .int .i64 v ∧ v + sumI (cs.drop j) = sumI cs ∧ 0 ≤ v ∧ Below wr.heap.size wr ws) (fun _ i _ => n2 - (intOf i).toNat)
      case atStart => exact ⟨0, 0, Nat.zero_le _, rfl, rfl, by simp, by omega, Below.refl _ _⟩
      case round =>
        obtain ⟨j, v, hj, rfl, rfl, hsv, hv0, hbel2⟩ := hrel
        have BC := hid hbel2
        clear hbel2
        by_cases hlj : j < n2
        · obtain ⟨p2, o2, y, rfl, _, hy, hc⟩ := num_at R2.out hlj
          have e1 := hc _ (B3.out.trans (BC.out.mono B3.out.size))
          rw [sl_drop hy] at hsv
          simp only [sumI] at hsv
          have SV := hid hsv
          have hyp := CP.out y (List.mem_of_getElem? hy)
          have hps := sumI_nonneg (c := cs.drop (j + 1)) (fun q hq => CP.out q (List.mem_of_mem_drop hq))
          have wk1 : IntKind.i64.wrap ((j : Int) + 1) = j + 1 := IntWalk.i64_in _ (by omega)
          have wk2 : IntKind.i64.wrap (v + y) = v + y := IntWalk.i64_in _ (by omega)
          clear hc hy hsv
          go_wp2
          go_roundw
          case rel => exact ⟨j + 1, v + y, by omega, by go_num, rfl, by have := SV.out; omega, by omega, BC.out⟩
          case measure => simp [intOf]; omega
        · obtain rfl : n2 = j := by omega
          have hv : v = (N : Int) := by rw [List.drop_eq_nil_of_le (by have := HM.out; omega)] at hsv; simp [sumI] at hsv; have := G3.out; omega
          subst hv
          clear hsv
          have B4 := hid (B3.out.trans (BC.out.mono B3.out.size))
          have Q4 := hid (BB.out.trans (BC.out.mono BB.out.size))
          have D4 := hid (D2.out.below Q4.out D2.out.lt)
          have c4 := D4.out.cell
          go_wp2_with fail
          refine (trim_any W A1 c1 N S _ (RS.out.below Q4.out) SO.out.two HNS.out.symm (by unfold maxLen; omega)).mono ?_
          rintro e w5 ⟨A5, c5, rfl, hr, hb⟩
          rw [SO.out.trim.1] at hr ⊢
          rw [SO.out.chk]
          have RT := hid hr
          have B5 := hid (B4.out.trans (hb.mono B4.out.size))
          have Q5 := hid (Q4.out.trans (hb.mono Q4.out.size))
          have D5 := hid (D4.out.below hb D4.out.lt)
          clear hb hr c4
          obtain ⟨TT, hTT⟩ : ∃ TT, trims W 0 S = TT := ⟨_, rfl⟩
          have TP := hid (trims_pos W S 0)
          have T2 := hid (trims_two W S 0)
          have TL := hid (trims_len W S 0)
          have TS := hid SO.out.trim.2
          rw [hTT] at RT TP T2 TL TS ⊢
          clear hTT
          obtain ⟨M, hM⟩ : ∃ M, TT.length = M := ⟨_, rfl⟩
          have HMT := hid hM
          rw [hM] at RT TL ⊢
          have m13 : M ≤ 13 := by have := TL.out; have := HNS.out; omega
          clear hM
          go_wp2
          go_loopw [15, 16] (fun u i ws => ∃ (j : Nat) (v : Int), j ≤ M ∧ i = .int .i64 j ∧ u = .int .i64 v ∧ v + sumW (TT.drop j) = sumW TT ∧ 0 ≤ v ∧ Below w5.heap.size w5 ws) (fun _ i _ => M - (intOf i).toNat)
          case atStart => exact ⟨0, 0, Nat.zero_le _, rfl, rfl, by simp, by omega, Below.refl _ _⟩
          case round =>
            obtain ⟨j, v, hj, rfl, rfl, hsv, hv0, hbel2⟩ := hrel
            have BD := hid hbel2
            clear hbel2
            by_cases hlj : j < M
            · obtain ⟨p2, o2, y, z, rfl, _, hpq, hc⟩ := cells_at RT.out T2.out HMT.out.symm hlj
              obtain ⟨e1, e2⟩ := hc _ BD.out
              have hyp := TP.out _ (List.mem_of_getElem? hpq)
              have hps := sumW_ge (l := TT.drop (j + 1)) (fun q hq => TP.out q (List.mem_of_mem_drop hq))
              rw [sl_drop hpq] at hsv
              simp only [sumW, List.getD_cons_zero, List.getD_cons_succ] at hsv hyp
              have SV := hid hsv
              have wk1 : IntKind.i64.wrap ((j : Int) + 1) = j + 1 := IntWalk.i64_in _ (by omega)
              have wk2 : IntKind.i64.wrap (v + z) = v + z := IntWalk.i64_in _ (by have := TS.out; omega)
              clear hc hpq hsv
              go_wp2
              go_roundw
              case rel => exact ⟨j + 1, v + z, by omega, by go_num, rfl, by have := SV.out; omega, by omega, BD.out⟩
              case measure => simp [intOf]; omega
            · obtain rfl : M = j := by omega
              have hv : v = W - D := by rw [List.drop_eq_nil_of_le (by have := HMT.out; omega)] at hsv; simp [sumW] at hsv; have := TS.out; omega
              subst hv
              clear hsv
              have B6 := hid (B5.out.trans (BD.out.mono B5.out.size))
              have D6 := hid (D5.out.below BD.out D5.out.lt)
              have c6 := D6.out.cell
              have z1 : IntKind.i64.wrap (W - E) = W - E := IntWalk.i64_in _ (by omega)
              have z2 : IntKind.i64.wrap (W - E - LF) = E + D := by have := HLF.out; rw [IntWalk.i64_in _ (by omega)]; omega
              have z3 : IntKind.i64.wrap (2 * E) = 2 * E := IntWalk.i64_in _ (by omega)
              have z4 : IntKind.i64.wrap (LF + 2 * E) = W - D := by have := HLF.out; rw [IntWalk.i64_in _ (by omega)]; omega
              go_wp2_with fail
              refine (scheck_any W A1 c1 N S _ (RS.out.below (Q5.out.trans (BD.out.mono Q5.out.size))) SO.out.two HNS.out.symm (by unfold maxLen; omega)).mono ?_
              rintro e w7 ⟨rfl, hb⟩
              rw [SO.out.chk]
              have B7 := hid (B6.out.trans (hb.mono B6.out.size))
              clear hb c6
              go_wp2_with fail
              refine (awake_any _).mono ?_
              rintro e wz ⟨rfl, hb⟩
              go_wp2
              go_ret
              exact ⟨rfl, B7.out.trans (hb.mono B7.out.size)⟩
theorem slitPattern_walk (x0 : Int) (x1 : Int) (x2 : Int) (x3 : Int) (a4 : Option Addr) (c4 : Nat) (x4 : List Int) (a5 : Option Addr) (c5 : Nat) (x5 : List Int) (w : World) (_h0 : (Lit.int .i64 x0).wf = true) (_h1 : (Lit.int .i64 x1).wf = true) (_h2 : (Lit.int .i64 x2).wf = true) (_h3 : (Lit.int .i64 x3).wf = true) (h4 : Rds Nn w 1 a4 x4.length (ints x4)) (g4 : x4.length ≤ c4 ∧ c4 ≤ maxLen ∧ (a4 = none → x4.length = 0 ∧ c4 = 0)) (_i4 : ∀ n ∈ x4, (Lit.int .i64 n).wf = true) (h5 : Rds Nn w 1 a5 x5.length (ints x5)) (_g5 : x5.length ≤ c5 ∧ c5 ≤ maxLen ∧ (a5 = none → x5.length = 0 ∧ c5 = 0)) (_i5 : ∀ n ∈ x5, (Lit.int .i64 n).wf = true) :
    Calls Try.prog 10 #[.agg #[.int .i64 x0, .int .i64 x1, .int .i64 x2, .int .i64 x3, .slice a4 x4.length c4], .slice a5 x5.length c5] w fun e w' => e = .returned (.bool true) ∧ Below w.heap.size w w' := by
  exact slitPattern_in x0 x1 x2 x3 a4 a5 c4 c5 _ _ x4 x5 w h4 h5 rfl rfl (Nat.le_trans g4.1 g4.2.1)
end Go.Proofs.Ytccgbojcghbdcaa
