/- ClosedLimits. -/
import Derived.Test.YtkcalkiibolceaaCPlain
namespace Go.Proofs.Ytkcalkiibolceaa
open Go.RowKit

set_option maxRecDepth 100000 in
set_option maxHeartbeats 8000000 in
theorem closedLimits_walk (x0 : Int) (x1 : Int) (x2 : Int) (x3 : Int) (x4 : Int) (x5 : Int) (x6 : Int) (x7 : Int) (x8 : Int) (x9 : Int) (x10 : Int) (a11 : Option Addr) (c11 : Nat) (x11 : List Int) (a12 : Option Addr) (c12 : Nat) (x12 : List Int) (x13 : Int) (w : World) (_h0 : (Lit.int .i64 x0).wf = true) (_h1 : (Lit.int .i64 x1).wf = true) (_h2 : (Lit.int .i64 x2).wf = true) (_h3 : (Lit.int .i64 x3).wf = true) (_h4 : (Lit.int .i64 x4).wf = true) (_h5 : (Lit.int .i64 x5).wf = true) (_h6 : (Lit.int .i64 x6).wf = true) (_h7 : (Lit.int .i64 x7).wf = true) (_h8 : (Lit.int .i64 x8).wf = true) (_h9 : (Lit.int .i64 x9).wf = true) (_h10 : (Lit.int .i64 x10).wf = true) (h11 : Rds Nn w 1 a11 x11.length (ints x11)) (g11 : x11.length ≤ c11 ∧ c11 ≤ maxLen ∧ (a11 = none → x11.length = 0 ∧ c11 = 0)) (_i11 : ∀ n ∈ x11, (Lit.int .i64 n).wf = true) (h12 : Rds Nn w 1 a12 x12.length (ints x12)) (g12 : x12.length ≤ c12 ∧ c12 ≤ maxLen ∧ (a12 = none → x12.length = 0 ∧ c12 = 0)) (_i12 : ∀ n ∈ x12, (Lit.int .i64 n).wf = true) (_h13 : (Lit.int .i64 x13).wf = true) :
    Calls Try.prog 6 #[.agg #[.int .i64 x0, .int .i64 x1, .int .i64 x2, .int .i64 x3, .int .i64 x4, .int .i64 x5, .int .i64 x6, .int .i64 x7, .int .i64 x8], .int .i64 x9, .int .i64 x10, .slice a11 x11.length c11, .slice a12 x12.length c12, .int .i64 x13] w fun e w' => e = .returned (.bool true) ∧ Below w.heap.size w w' := by
  obtain ⟨ga1, gb1, _⟩ := g11
  obtain ⟨ga2, gb2, _⟩ := g12
  have R1 := hid h11
  have R2 := hid h12
  clear h11 h12
  by_cases hf : x11.length ≤ 600 ∧ x12.length ≤ 600
  rotate_left
  · have hf2 : (decide (x11.length ≤ 600) && decide (x12.length ≤ 600)) = false := by simp; omega
    have HF := hid hf2
    clear hf hf2
    go_enter Try.func6, Try.ntmps6
    go_wp2_with fail
    refine (few_any _ _ _ _ _ _ _ (by omega) (by omega)).mono ?_
    rintro e v8 ⟨rfl, rfl⟩
    rw [HF.out]
    go_wp2_with (go_at_call 14; refine (awake_any _).mono ?_; rintro e v9 ⟨rfl, hb⟩)
    go_ret
    exact ⟨rfl, ((Below.refl _ _).alloc (by simp <;> omega) _).trans (hb.mono (by simp <;> omega))⟩
  obtain ⟨hf1, hf2⟩ := hf
  have hf3 : (decide (x11.length ≤ 600) && decide (x12.length ≤ 600)) = true := by simp; omega
  have HF := hid hf3
  clear hf3
  go_enter Try.func6, Try.ntmps6
  go_wp2_with fail
  refine (few_any _ _ _ _ _ _ _ (by omega) (by omega)).mono ?_
  rintro e v8 ⟨rfl, rfl⟩
  rw [HF.out]
  have C0 : Hid (Blk (w.alloc (.cells #[.int .i64 x0, .int .i64 x1, .int .i64 x2, .int .i64 x3, .int .i64 x4, .int .i64 x5, .int .i64 x6, .int .i64 x7, .int .i64 x8] 27)) w.heap.size 27 #[.int .i64 x0, .int .i64 x1, .int .i64 x2, .int .i64 x3, .int .i64 x4, .int .i64 x5, .int .i64 x6, .int .i64 x7, .int .i64 x8]) := hid (Blk.at_new _ rfl)
  have cC := C0.out.cell
  have B0 := hid ((Below.refl w.heap.size w).alloc (Nat.le_refl _) (.cells #[.int .i64 x0, .int .i64 x1, .int .i64 x2, .int .i64 x3, .int .i64 x4, .int .i64 x5, .int .i64 x6, .int .i64 x7, .int .i64 x8] 27))
  have Q1 := hid (R1.out.below B0.out)
  have Q2 := hid (R2.out.below B0.out)
  go_wp2_with fail
  refine (climits_any x0 x1 x2 x3 x4 x5 x6 x7 x8 x13 _).mono ?_
  rintro e w1 ⟨rfl, hb⟩
  have C1 := hid (C0.out.below hb C0.out.lt)
  have B1 := hid (B0.out.trans (hb.mono B0.out.size))
  have Q11 := hid (Q1.out.below hb)
  have Q12 := hid (Q2.out.below hb)
  clear hb cC
  have cC := C1.out.cell
  go_wp2_with fail
  refine (run_any x0 x1 x2 x3 x4 x5 x6 x7 x8 _ _ _ _ _ _ x11 x12 _ Q11.out Q12.out (by omega)).mono ?_
  rintro e w2 ⟨u, rfl, hu, hb⟩
  have C2 := hid (C1.out.below hb C1.out.lt)
  have B2 := hid (B1.out.trans (hb.mono B1.out.size))
  obtain ⟨A, c, rfl, _, _⟩ := own_form hu
  have RU := hid (Rds.own hu (S := Nn) (fun _ _ => id))
  have QD := hid (Q12.out.below hb)
  clear hu hb cC
  by_cases good : limErr x0 x1 x2 x3 x4 x5 x6 x7 x8 x13 = 0 ∧ runErr x0 x1 x2 x3 x4 x5 x6 x7 x8 x9 x10 x11 x12 = 0 ∧ limLo x0 x1 x2 x3 x4 x5 x6 x7 x8 x13 ≤ x10 ∧ x10 ≤ limHi x0 x1 x2 x3 x4 x5 x6 x7 x8 x13
  rotate_left
  · have hz : (limErr x0 x1 x2 x3 x4 x5 x6 x7 x8 x13 != 0) = true ∨ (runErr x0 x1 x2 x3 x4 x5 x6 x7 x8 x9 x10 x11 x12 != 0) = true ∨ x10 < limLo x0 x1 x2 x3 x4 x5 x6 x7 x8 x13 ∨ limHi x0 x1 x2 x3 x4 x5 x6 x7 x8 x13 < x10 := by
      simp only [bne_iff_ne]
      omega
    clear good
    rcases hz with hz | hz | hz | hz
    all_goals
      go_wp2_with (go_at_call 14; refine (awake_any _).mono ?_; rintro e v9 ⟨rfl, hb⟩)
      all_goals go_ret
      all_goals exact ⟨rfl, B2.out.trans (hb.mono B2.out.size)⟩
  obtain ⟨ge, gr, gl, gh⟩ := good
  have RN3 := hid (rows_three x0 x1 x2 x3 x4 x5 x6 x7 x8 x9 x10 x11 x12)
  have RLN := hid (rows_ok gr).2
  obtain ⟨k1, k2, k3, k4, k5⟩ := run_ok gr
  obtain ⟨j1, j2, j3, j4⟩ := chkC_ok k1
  have ck := chkP_ok j2
  have hx13 : 0 ≤ x13 ∧ x13 ≤ 65536 := by
    unfold limErr at ge
    rw [if_neg (by omega)] at ge
    split at ge
    · assumption
    · cases ge
  have zl : limLo x0 x1 x2 x3 x4 x5 x6 x7 x8 x13 = tgt x6 x3 - x13 * x7 := by unfold limLo; rw [if_pos ge]
  have zh : limHi x0 x1 x2 x3 x4 x5 x6 x7 x8 x13 = tgt x6 x4 + x13 * x7 := by unfold limHi; rw [if_pos ge]
  obtain ⟨LO, hLO⟩ : ∃ LO, limLo x0 x1 x2 x3 x4 x5 x6 x7 x8 x13 = LO := ⟨_, rfl⟩
  obtain ⟨HI, hHI⟩ : ∃ HI, limHi x0 x1 x2 x3 x4 x5 x6 x7 x8 x13 = HI := ⟨_, rfl⟩
  have VI : Hid ((∀ p ∈ x11.zip x12, -x13 ≤ p.2 ∧ p.2 ≤ x13) → ∀ r ∈ runRows x0 x1 x2 x3 x4 x5 x6 x7 x8 x9 x10 x11 x12, ∃ a b c : Int, r = [a, b, c] ∧ LO ≤ c ∧ c ≤ HI) := hid (fun hp r hr => by
    rw [(rows_ok gr).1] at hr
    have h0 := Bool.and_eq_true_iff.1 k4
    have hin := Ct.inB_true h0.2
    have := vals_in (W := x13) j1 ck.1 ck.2.2.1 (x11.zip x12) (s0 x9 x10 x8.toNat) (fun n hn => by have := (List.mem_replicate.1 hn).2; omega) (by simp only [s0]; rw [← zl, ← zh]; exact ⟨gl, gh⟩) hp r hr
    rw [← zl, ← zh, hLO, hHI] at this
    exact this)
  have nw : IntKind.i64.wrap (-x13) = -x13 := IntWalk.i64_in _ (by omega)
  rw [hLO] at gl
  rw [hHI] at gh
  rw [hLO, hHI, ge, gr]
  obtain ⟨rows, hrows⟩ : ∃ rows, runRows x0 x1 x2 x3 x4 x5 x6 x7 x8 x9 x10 x11 x12 = rows := ⟨_, rfl⟩
  rw [hrows] at RU VI RLN RN3 ⊢
  have HL := hid k3
  have hrl : rows.length ≤ 600 := by have := RLN.out; omega
  clear ge gr k1 k2 k3 k4 k5 j1 j2 j3 j4 zl zh hLO hHI hrows ck
  go_wp2
  go_loopw [18] (fun i wr => ∃ k : Nat, k ≤ x12.length ∧ i = .int .i64 k ∧ (∀ j d, j < k → x12[j]? = some d → -x13 ≤ d ∧ d ≤ x13) ∧ wr = w2) (fun i _ => x12.length - (intOf i).toNat)
  case atStart => exact ⟨0, Nat.zero_le _, rfl, fun j d hj => by omega, rfl⟩
  case round =>
    obtain ⟨k, hk, rfl, hall, rfl⟩ := hrel
    have ALL := hid hall
    clear hall
    by_cases hlt : k < x12.length
    · obtain ⟨p2, o2, rfl, hp2, _, hr2⟩ := Rds.plain QD.out (by omega) (by decide)
      obtain ⟨d, hd⟩ : ∃ d, x12[k]? = some d := ⟨_, List.getElem?_eq_getElem hlt⟩
      have e2 : wr.cell? ⟨p2, o2 + k, none⟩ = some (.int .i64 d) := hr2 k (.int .i64 d) (by rw [ints_get, hd]; rfl)
      have HD := hid hd
      clear hr2 hd
      by_cases hin : -x13 ≤ d ∧ d ≤ x13
      · obtain ⟨i1, i2⟩ := hin
        go_wp2
        go_roundw
        case rel =>
          refine ⟨k + 1, by omega, by go_num, fun j d' hj hjd => ?_, by trivial⟩
          by_cases hjk : j = k
          · subst hjk
            rw [HD.out] at hjd
            injection hjd with hjd
            subst hjd
            exact ⟨i1, i2⟩
          · exact ALL.out j d' (by omega) hjd
        case measure => simp [intOf]; omega
      · have hin2 : d < -x13 ∨ x13 < d := by omega
        clear hin
        rcases hin2 with hin | hin
        all_goals
          go_wp2_with (go_at_call 14; refine (awake_any _).mono ?_; rintro e v9 ⟨rfl, hb⟩)
          all_goals go_ret
          all_goals exact ⟨rfl, B2.out.trans (hb.mono B2.out.size)⟩
    · obtain rfl : k = x12.length := by omega
      have VJ := hid (VI.out (fun p hp => by
        obtain ⟨j, hj⟩ := List.mem_iff_getElem?.1 hp
        rw [List.getElem?_zip_eq_some] at hj
        exact ALL.out j p.2 (List.getElem?_eq_some_iff.1 hj.2).1 hj.2))
      go_wp2
      go_loopw [19] (fun i wz => ∃ k : Nat, k ≤ rows.length ∧ i = .int .i64 k ∧ wz = wr) (fun i _ => rows.length - (intOf i).toNat)
      case atStart => exact ⟨0, Nat.zero_le _, rfl, rfl⟩
      case round =>
        obtain ⟨k, hk, rfl, rfl⟩ := hrel
        by_cases hlt : k < rows.length
        · obtain ⟨p1, o1, rfl, hp1, _, hr1⟩ := Rds.plain RU.out (by omega) (by decide)
          obtain ⟨a, b, c, hrow, _, _, hc⟩ := three_at RN3.out hlt
          obtain ⟨a', b', c', he, v1, v2⟩ := VJ.out _ (List.mem_of_getElem? hrow)
          injection he with _ he
          injection he with _ he
          injection he with he _
          subst he
          have e1 : wr.cell? ⟨p1, o1 + k * 3 + 2, none⟩ = some (.int .i64 c) := by
            have := hr1 _ _ hc
            rw [← this, Nat.mul_comm]
            rfl
          clear hr1 hrow hc
          go_wp2
          go_roundw
          case rel => exact ⟨k + 1, by omega, by go_num, by trivial⟩
          case measure => simp [intOf]; omega
        · obtain rfl : k = rows.length := by omega
          have rl := RLN.out
          go_wp2_with (go_at_call 14; refine (awake_any _).mono ?_; rintro e v9 ⟨rfl, hb⟩)
          go_ret
          exact ⟨rfl, B2.out.trans (hb.mono B2.out.size)⟩
end Go.Proofs.Ytkcalkiibolceaa
