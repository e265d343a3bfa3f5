/- ClosedOutputs. -/
import Derived.Test.YtkcalkiibolceaaCPlain
namespace Go.Proofs.Ytkcalkiibolceaa
open Go.RowKit

set_option maxRecDepth 100000 in
set_option maxHeartbeats 8000000 in
theorem closedOutputs_walk (x0 : Int) (x1 : Int) (x2 : Int) (x3 : Int) (x4 : Int) (x5 : Int) (x6 : Int) (x7 : Int) (x8 : Int) (x9 : Int) (x10 : Int) (a11 : Option Addr) (c11 : Nat) (x11 : List Int) (a12 : Option Addr) (c12 : Nat) (x12 : List Int) (w : World) (_h0 : (Lit.int .i64 x0).wf = true) (_h1 : (Lit.int .i64 x1).wf = true) (_h2 : (Lit.int .i64 x2).wf = true) (_h3 : (Lit.int .i64 x3).wf = true) (_h4 : (Lit.int .i64 x4).wf = true) (_h5 : (Lit.int .i64 x5).wf = true) (_h6 : (Lit.int .i64 x6).wf = true) (_h7 : (Lit.int .i64 x7).wf = true) (_h8 : (Lit.int .i64 x8).wf = true) (_h9 : (Lit.int .i64 x9).wf = true) (_h10 : (Lit.int .i64 x10).wf = true) (h11 : Rds Nn w 1 a11 x11.length (ints x11)) (g11 : x11.length ≤ c11 ∧ c11 ≤ maxLen ∧ (a11 = none → x11.length = 0 ∧ c11 = 0)) (_i11 : ∀ n ∈ x11, (Lit.int .i64 n).wf = true) (h12 : Rds Nn w 1 a12 x12.length (ints x12)) (g12 : x12.length ≤ c12 ∧ c12 ≤ maxLen ∧ (a12 = none → x12.length = 0 ∧ c12 = 0)) (_i12 : ∀ n ∈ x12, (Lit.int .i64 n).wf = true) :
    Calls Try.prog 7 #[.agg #[.int .i64 x0, .int .i64 x1, .int .i64 x2, .int .i64 x3, .int .i64 x4, .int .i64 x5, .int .i64 x6, .int .i64 x7, .int .i64 x8], .int .i64 x9, .int .i64 x10, .slice a11 x11.length c11, .slice a12 x12.length c12] w fun e w' => e = .returned (.bool true) ∧ Below w.heap.size w w' := by
  obtain ⟨ga1, gb1, _⟩ := g11
  obtain ⟨ga2, gb2, _⟩ := g12
  have R1 := hid h11
  have R2 := hid h12
  clear h11 h12
  by_cases hf : x11.length ≤ 600 ∧ x12.length ≤ 600
  rotate_left
  · have hf2 : (decide (x11.length ≤ 600) && decide (x12.length ≤ 600)) = false := by simp; omega
    have HF := hid hf2
    clear hf hf2
    go_enter Try.func7, Try.ntmps7
    go_wp2_with fail
    refine (few_any _ _ _ _ _ _ _ (by omega) (by omega)).mono ?_
    rintro e v8 ⟨rfl, rfl⟩
    rw [HF.out]
    go_wp2_with (go_at_call 14; refine (awake_any _).mono ?_; rintro e v9 ⟨rfl, hb⟩)
    go_ret
    exact ⟨rfl, ((Below.refl _ _).alloc (by simp <;> omega) _).trans (hb.mono (by simp <;> omega))⟩
  obtain ⟨hf1, hf2⟩ := hf
  have hf3 : (decide (x11.length ≤ 600) && decide (x12.length ≤ 600)) = true := by simp; omega
  have HF := hid hf3
  clear hf3
  go_enter Try.func7, Try.ntmps7
  go_wp2_with fail
  refine (few_any _ _ _ _ _ _ _ (by omega) (by omega)).mono ?_
  rintro e v8 ⟨rfl, rfl⟩
  rw [HF.out]
  have C0 : Hid (Blk (w.alloc (.cells #[.int .i64 x0, .int .i64 x1, .int .i64 x2, .int .i64 x3, .int .i64 x4, .int .i64 x5, .int .i64 x6, .int .i64 x7, .int .i64 x8] 27)) w.heap.size 27 #[.int .i64 x0, .int .i64 x1, .int .i64 x2, .int .i64 x3, .int .i64 x4, .int .i64 x5, .int .i64 x6, .int .i64 x7, .int .i64 x8]) := hid (Blk.at_new _ rfl)
  have cC := C0.out.cell
  have B0 := hid ((Below.refl w.heap.size w).alloc (Nat.le_refl _) (.cells #[.int .i64 x0, .int .i64 x1, .int .i64 x2, .int .i64 x3, .int .i64 x4, .int .i64 x5, .int .i64 x6, .int .i64 x7, .int .i64 x8] 27))
  have Q1 := hid (R1.out.below B0.out)
  have Q2 := hid (R2.out.below B0.out)
  go_wp2_with fail
  refine (run_any x0 x1 x2 x3 x4 x5 x6 x7 x8 _ _ _ _ _ _ x11 x12 _ Q1.out Q2.out (by omega)).mono ?_
  rintro e w1 ⟨u, rfl, hu, hb⟩
  have C1 := hid (C0.out.below hb C0.out.lt)
  have B1 := hid (B0.out.trans (hb.mono B0.out.size))
  obtain ⟨A, c, rfl, _, _⟩ := own_form hu
  have RU := hid (Rds.own hu (S := Nn) (fun _ _ => id))
  have QS := hid (Q1.out.below hb)
  clear hu hb cC
  by_cases gr : runErr x0 x1 x2 x3 x4 x5 x6 x7 x8 x9 x10 x11 x12 = 0
  rotate_left
  · have hz : (runErr x0 x1 x2 x3 x4 x5 x6 x7 x8 x9 x10 x11 x12 != 0) = true := by simpa using gr
    have rl : (runRows x0 x1 x2 x3 x4 x5 x6 x7 x8 x9 x10 x11 x12).length = 0 := by unfold runRows; rw [if_neg gr]; rfl
    clear gr
    go_wp2_with (go_at_call 14; refine (awake_any _).mono ?_; rintro e v9 ⟨rfl, hb⟩)
    go_ret
    exact ⟨rfl, B1.out.trans (hb.mono B1.out.size)⟩
  have RN3 := hid (rows_three x0 x1 x2 x3 x4 x5 x6 x7 x8 x9 x10 x11 x12)
  have RLN := hid (rows_ok gr).2
  obtain ⟨k1, k2, k3, k4, k5⟩ := run_ok gr
  obtain ⟨j1, j2, j3, j4⟩ := chkC_ok k1
  have ck := Ct.chk_ok j1
  have hin := Ct.inB_true (Bool.and_eq_true_iff.1 k4).2
  have J1 := hid j1
  have VO : Hid (∀ k : Nat, k < x11.length → ∃ a b c : Int, x11[k]? = some a ∧ (runRows x0 x1 x2 x3 x4 x5 x6 x7 x8 x9 x10 x11 x12)[k]? = some [a, b, c] ∧ x3 ≤ b ∧ b ≤ x4 ∧ b - prevO x9 (runRows x0 x1 x2 x3 x4 x5 x6 x7 x8 x9 x10 x11 x12) k ≤ x5 ∧ prevO x9 (runRows x0 x1 x2 x3 x4 x5 x6 x7 x8 x9 x10 x11 x12) k - b ≤ x5 ∧ x3 ≤ prevO x9 (runRows x0 x1 x2 x3 x4 x5 x6 x7 x8 x9 x10 x11 x12) k ∧ prevO x9 (runRows x0 x1 x2 x3 x4 x5 x6 x7 x8 x9 x10 x11 x12) k ≤ x4) := hid (fun k hk => by
    rw [(rows_ok gr).1]
    have h1 : x11[k]? = some x11[k] := List.getElem?_eq_getElem hk
    have h2 : x12[k]? = some x12[k] := List.getElem?_eq_getElem (by omega)
    obtain ⟨b, c, e1, e2⟩ := outs_in (ga := x6) (la := x7) j1 (x11.zip x12) (s0 x9 x10 x8.toNat) hin k _ (zip_at h1 h2)
    exact ⟨x11[k], b, c, h1, e1, e2⟩)
  rw [gr]
  obtain ⟨rows, hrows⟩ : ∃ rows, runRows x0 x1 x2 x3 x4 x5 x6 x7 x8 x9 x10 x11 x12 = rows := ⟨_, rfl⟩
  rw [hrows] at RU VO RLN RN3 ⊢
  have rl := RLN.out
  have hrl : rows.length ≤ 600 := by omega
  clear gr k1 k2 k3 k4 k5 j1 j2 j3 j4 hrows
  have cC := C1.out.cell
  go_wp2_with fail
  refine (Ct.rcheck_any _ _ _ _ _ _ _).mono ?_
  rintro e w2 ⟨rfl, hb⟩
  rw [J1.out]
  have C2 := hid (C1.out.below hb C1.out.lt)
  have RV := hid (RU.out.below hb)
  have QT := hid (QS.out.below hb)
  have B2 := hid (B1.out.trans (hb.mono B1.out.size))
  clear hb cC
  have cC := C2.out.cell
  go_wp2
  go_loopw [1, 13] (fun oo i wr => ∃ k : Nat, k ≤ x11.length ∧ i = .int .i64 k ∧ oo = .int .i64 (prevO x9 rows k) ∧ Below w2.heap.size w2 wr) (fun _ i _ => x11.length - (intOf i).toNat)
  case atStart => exact ⟨0, Nat.zero_le _, rfl, rfl, Below.refl _ _⟩
  case round =>
    obtain ⟨k, hk, rfl, rfl, hbel⟩ := hrel
    have BW := hid hbel
    have BB := hid (B2.out.trans (hbel.mono B2.out.size))
    have CW := hid (C2.out.below hbel C2.out.lt)
    have RW := hid (RV.out.below hbel)
    have QW := hid (QT.out.below hbel)
    clear hbel cC
    have cC := CW.out.cell
    by_cases hlt : k < x11.length
    · obtain ⟨p1, o1, rfl, hp1, _, hr1⟩ := Rds.plain QW.out (by omega) (by decide)
      obtain ⟨p2, o2, rfl, hp2, _, hr2⟩ := Rds.plain RW.out (by omega) (by decide)
      obtain ⟨a, b, c', hx, hrow, v1, v2, v3, v4, v5, v6⟩ := VO.out k hlt
      obtain ⟨a', b', c2, hrow2, ha, hb2, hc2⟩ := three_at RN3.out (k := k) (by omega)
      rw [hrow] at hrow2
      injection hrow2 with hrow2
      injection hrow2 with e1 hrow2
      injection hrow2 with e2 hrow2
      subst e1 e2
      have f1 : wr.cell? ⟨p1, o1 + k, none⟩ = some (.int .i64 a) := hr1 k (.int .i64 a) (by rw [ints_get, hx]; rfl)
      have f2 : wr.cell? ⟨p2, o2 + k * 3, none⟩ = some (.int .i64 a) := by
        have := hr2 _ _ ha
        rw [← this, Nat.mul_comm]
      have f3 : wr.cell? ⟨p2, o2 + k * 3 + 1, none⟩ = some (.int .i64 b) := by
        have := hr2 _ _ hb2
        rw [← this, Nat.mul_comm]
        rfl
      have PN : Hid (prevO x9 rows (k + 1) = b) := hid (by simp [prevO, hrow])
      obtain ⟨q, hq⟩ : ∃ q, prevO x9 rows k = q := ⟨_, rfl⟩
      rw [hq] at v3 v4 v5 v6 ⊢
      clear hr1 hr2 hx hrow hrow2 ha hb2 hc2 hq
      have t2 : decide (b < x3) = false := by simp; omega
      have t3 : decide (x4 < b) = false := by simp; omega
      have t4 : decide (x5 < b - q) = false := by simp; omega
      have t5 : decide (x5 < q - b) = false := by simp; omega
      have w4 : IntKind.i64.wrap (b - q) = b - q := IntWalk.i64_in _ (by omega)
      have w5 : IntKind.i64.wrap (q - b) = q - b := IntWalk.i64_in _ (by omega)
      go_wp2_with fail
      go_quiet (fail)
      go_wp2
      go_roundw
      case rel => exact ⟨k + 1, by omega, by go_num, by rw [PN.out], below_drewN BW.out _⟩
      case measure => simp [intOf]; omega
    · obtain rfl : k = x11.length := by omega
      go_wp2_with (go_at_call 14; refine (awake_any _).mono ?_; rintro e v9 ⟨rfl, hb⟩)
      go_ret
      exact ⟨rfl, BB.out.trans (hb.mono BB.out.size)⟩
end Go.Proofs.Ytkcalkiibolceaa
