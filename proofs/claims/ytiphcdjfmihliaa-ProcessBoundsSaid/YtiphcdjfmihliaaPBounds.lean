/- ProcessBounds. -/
import Derived.Test.YtiphcdjfmihliaaPair
import Derived.Deep.DeepCutAuto
namespace Go.Proofs.Ytiphcdjfmihliaa
open Go.RowKit

theorem clamp_any (n lo hi : Int) (w : World) : Calls Try.prog 27 #[.int .i64 n, .int .i64 lo, .int .i64 hi] w fun e w' => e = .returned (.int .i64 (clampI n lo hi)) ∧ w = w' := by
  go_enter Try.func27, Try.ntmps27
  go_wp2
  all_goals go_ret
  all_goals refine ⟨ret_i ?_, rfl⟩
  all_goals unfold clampI
  all_goals omega
theorem tgt_bd2 {ga n : Int} (h1 : 1 ≤ ga) (h2 : ga ≤ 4096) (h : -16777216 ≤ n ∧ n ≤ 16777216) : -268435456 ≤ tgt ga n ∧ tgt ga n ≤ 268435456 := by
  have m := mul_bd (a := ga) (A := 4096) (b := n) (B := 16777216) (by omega) h2 h.1 h.2
  unfold tgt
  omega
set_option maxRecDepth 100000 in
set_option maxHeartbeats 8000000 in
theorem processBounds_walk (x0 : Int) (x1 : Int) (x2 : Int) (x3 : Int) (x4 : Int) (x5 : Int) (x6 : Int) (a7 : Option Addr) (c7 : Nat) (x7 : List (List Int)) (w : World) (_h0 : (Lit.int .i64 x0).wf = true) (_h1 : (Lit.int .i64 x1).wf = true) (_h2 : (Lit.int .i64 x2).wf = true) (_h3 : (Lit.int .i64 x3).wf = true) (_h4 : (Lit.int .i64 x4).wf = true) (_h5 : (Lit.int .i64 x5).wf = true) (_h6 : (Lit.int .i64 x6).wf = true) (h7 : Rds Nn w 2 a7 x7.length (ints x7.flatten)) (g7 : x7.length ≤ c7 ∧ c7 ≤ maxLen ∧ (a7 = none → x7.length = 0 ∧ c7 = 0)) (i7 : ∀ r ∈ x7, r.length = 2 ∧ ∀ n ∈ r, (Lit.int .i64 n).wf = true) :
    Calls Try.prog 6 #[.agg #[.int .i64 x0, .int .i64 x1, .int .i64 x2], .agg #[.int .i64 x3, .int .i64 x4, .int .i64 x5, .int .i64 x6], .slice a7 x7.length c7] w fun e w' => e = .returned (.bool true) ∧ Below w.heap.size w w' := by
  have HR := hid h7
  have HI := hid i7
  obtain ⟨g1, g2, g3⟩ := g7
  have HN := hid g3
  clear h7 i7 g3
  by_cases hl : 80 < x7.length
  · go_enter Try.func6, Try.ntmps6
    go_wp2_with fail
    refine (awake_any _).mono ?_
    rintro e w1 ⟨rfl, hb⟩
    have HB : Hid (Below w.heap.size w w1) := hid ((((Below.refl _ _).alloc (by simp <;> omega) _).alloc (by simp <;> omega) _).trans (hb.mono (by simp <;> omega)))
    clear hb
    go_wp2
    go_ret
    exact ⟨rfl, HB.out⟩
  by_cases he : bdErr x0 x1 x2 x3 x4 x5 = 0
  · have HE := hid he
    obtain ⟨NK, q1, q2, q3, q4, q5, q6, q7⟩ := bd_ok he
    obtain ⟨k1, k2, k3, k4, k5, k6⟩ := chkP_ok NK
    obtain ⟨D, rfl⟩ := Int.eq_ofNat_of_zero_le k5
    have z1 : bdLo x0 x1 D x3 x4 x5 = tgt x0 x3 - x5 * x1 := by unfold bdLo; rw [if_pos he]
    have z2 : bdHi x0 x1 D x3 x4 x5 = tgt x0 x4 + x5 * x1 := by unfold bdHi; rw [if_pos he]
    have t1 := tgt_bd2 (n := x3) k1 k2 (by omega)
    have t2 := tgt_bd2 (n := x4) k1 k2 (by omega)
    have t3 := tgt_mono (ga := x0) k1 q5
    have t4 := mul_bd (a := x1) (A := 256) (b := x5) (B := 65536) (by omega) k4 (by omega) q7
    have t5 : 0 ≤ x5 * x1 := Int.mul_nonneg q6 (by omega)
    rw [Int.mul_comm x1 x5] at t4
    obtain ⟨lo, hlo⟩ : ∃ lo, tgt x0 x3 - x5 * x1 = lo := ⟨_, rfl⟩
    obtain ⟨hi, hhi⟩ : ∃ hi, tgt x0 x4 + x5 * x1 = hi := ⟨_, rfl⟩
    rw [hlo] at z1
    rw [hhi] at z2
    have lb1 : -285212672 ≤ lo ∧ lo ≤ hi ∧ hi ≤ 285212672 := by omega
    have Z1 := hid z1
    have Z2 := hid z2
    have ZL := hid hlo
    have ZH := hid hhi
    clear he z1 z2 hlo hhi t1 t2 t3 t4 t5
    go_enter Try.func6, Try.ntmps6
    go_wp2_with fail
    refine (bounds_any _ _ _ _ _ _ _).mono ?_
    rintro e w1 ⟨rfl, hb⟩
    have G1 : Hid (Blk w1 (w.heap.size) 23 #[.int .i64 x0, .int .i64 x1, .int .i64 ((D : Int))]) := hid (Blk.below (Blk.alloc (Blk.at_new _ (by simp)) _) hb (by simp <;> omega))
    have X1 : Hid (Blk w1 (w.heap.size + 1) 41 #[.int .i64 x3, .int .i64 x4, .int .i64 x5, .int .i64 x6]) := hid (Blk.below (Blk.at_new _ (by simp)) hb (by simp <;> omega))
    have B1 : Hid (Below w.heap.size w w1) := hid (Below.trans (((Below.refl _ _).alloc (by simp <;> omega) _).alloc (by simp <;> omega) _) (hb.mono (by simp <;> omega)))
    clear hb
    have cG_0 : ∀ (i : Nat), w1.cell? ⟨w.heap.size, i, none⟩ = (#[.int .i64 x0, .int .i64 x1, .int .i64 ((D : Int))] : Array Value)[i]? := Blk.cell G1.out
    have cG_1 : ∀ (o0 : Obj) (i : Nat), (w1.alloc o0).cell? ⟨w.heap.size, i, none⟩ = (#[.int .i64 x0, .int .i64 x1, .int .i64 ((D : Int))] : Array Value)[i]? := fun _ => Blk.cell (Blk.alloc G1.out _)
    have cX_0 : ∀ (i : Nat), w1.cell? ⟨w.heap.size + 1, i, none⟩ = (#[.int .i64 x3, .int .i64 x4, .int .i64 x5, .int .i64 x6] : Array Value)[i]? := Blk.cell X1.out
    have cX_1 : ∀ (o0 : Obj) (i : Nat), (w1.alloc o0).cell? ⟨w.heap.size + 1, i, none⟩ = (#[.int .i64 x3, .int .i64 x4, .int .i64 x5, .int .i64 x6] : Array Value)[i]? := fun _ => Blk.cell (Blk.alloc X1.out _)
    rw [Z1.out, Z2.out, HE.out]
    have m1 := clampI_in (n := x6) q5
    have m2 := clampI_in (n := x6) lb1.2.1
    have nx : IntKind.i64.wrap (-x5) = -x5 := IntWalk.i64_in _ (by omega)
    obtain ⟨A, hA⟩ : ∃ A, clampI x6 x3 x4 = A := ⟨_, rfl⟩
    obtain ⟨V, hV⟩ : ∃ V, clampI x6 lo hi = V := ⟨_, rfl⟩
    rw [hA] at m1
    rw [hV] at m2
    have NX := hid nx
    have HA := hid hA
    have HV := hid hV
    clear nx hA hV
    go_wp2_with fail
    by_cases ne : newErr x0 x1 D A V = 0
    · have NE := hid ne
      clear ne
      go_region_held3 (fun w' => (∀ i, w'.cell? ⟨w.heap.size, i, none⟩ = (#[.int .i64 x0, .int .i64 x1, .int .i64 ((D : Int))] : Array Value)[i]?) ∧ (∀ i, w'.cell? ⟨w.heap.size + 1, i, none⟩ = (#[.int .i64 x3, .int .i64 x4, .int .i64 x5, .int .i64 x6] : Array Value)[i]?)) (first | exact ⟨cG_0, cX_0⟩ | exact s2) (first
        | (go_at_call 27; refine (clamp_any _ _ _ _).mono ?_; rintro e v9 ⟨rfl, rfl⟩; rw [HA.out])
        | (go_at_call 27; refine (clamp_any _ _ _ _).mono ?_; rintro e v9 ⟨rfl, rfl⟩; rw [HV.out])
        | (go_at_call 17; refine (pnew_any x0 x1 D A V _ NE.out).mono ?_; rintro e w2 ⟨b, lb, lv, rfl, hp, hpg, hb⟩; have hp2 : PSt w2 b x0 x1 (D : Int) V lb lv (List.replicate D A) := (by simpa using hp); have P2 := hid hp2; have NX1 : Hid (¬ Fs b lb lv (w.heap.size + 1)) := hid (fun hf => by have h1 := hpg _ hf; have h2 := X1.out.lt; simp at h1; omega); have NW : Hid (∀ j, j < w.heap.size → ¬ Fs b lb lv j) := hid (fun j hj hf => by have h1 := hpg _ hf; have h2 := B1.out.size; simp at h1; omega); have B2 := hid ((Below.drew B1.out).trans (hb.mono (by simpa using B1.out.size))); have G2 := hid (Blk.below (Blk.drew G1.out) hb (Blk.lt (Blk.drew G1.out))); have X2 := hid (Blk.below (Blk.drew X1.out) hb (Blk.lt (Blk.drew X1.out))); have s2 := And.intro G2.out.cell X2.out.cell; clear hp hp2 hpg hb))
      clear s2 cG_0 cG_1 cX_0 cX_1
      have cX := X2.out.cell
      have ok0 : ∀ n ∈ List.replicate D A, x3 ≤ n ∧ n ≤ x4 := by intro n hn; have := (List.mem_replicate.1 hn).2; omega
      have OK0 := hid ok0
      clear ok0
      go_wp2
      go_loopw [12] (fun i wr => ∃ (k : Nat) (v : Int) (xs : List Int), k ≤ x7.length ∧ i = .int .i64 k ∧ PSt wr b x0 x1 (D : Int) v lb lv xs ∧ Blk wr (w.heap.size + 1) 41 #[.int .i64 x3, .int .i64 x4, .int .i64 x5, .int .i64 x6] ∧ (lo ≤ v ∧ v ≤ hi) ∧ xs.length = D ∧ (∀ n ∈ xs, x3 ≤ n ∧ n ≤ x4) ∧ Below w.heap.size w wr) (fun i _ => x7.length - (intOf i).toNat)
      case atStart => exact ⟨0, _, _, Nat.zero_le _, rfl, P2.out, X2.out, by omega, by simp, OK0.out, B2.out⟩
      case round =>
        obtain ⟨k, v, xs, hk, rfl, hP, hX, hv, hlen, hok, hbel⟩ := hrel
        have P := hid hP
        have X := hid hX
        have OKX := hid hok
        have LEN := hid hlen
        have cX := hX.cell
        clear hP hX hok hlen
        by_cases hlt : k < x7.length
        · have H80 : k ≤ 600 := by omega
          obtain ⟨b0, off, rfl, hb0, _, hrd⟩ := Rds.plain HR.out (by omega) (by decide)
          obtain ⟨o, d, hrow, ho, hd, wfo, wfd⟩ := pair_at HI.out hlt
          have c1 : wr.cell? ⟨b0, off + k * 2, none⟩ = some (.int .i64 o) := by
            have := hrd _ _ ho; rw [← this, Nat.mul_comm]; exact World.cell?_of_block (hbel.block _ hb0)
          have c2 : wr.cell? ⟨b0, off + k * 2 + 1, none⟩ = some (.int .i64 d) := by
            have := hrd _ _ hd; rw [← this, Nat.mul_comm]; exact World.cell?_of_block (hbel.block _ hb0)
          have l0 := Nat.lt_of_lt_of_le hb0 hbel.size
          have HB0 := hid hb0
          clear hrd ho hd hb0
          have HBEL := hid hbel
          clear hbel
          have m3 := clampI_in (n := o) q5
          have m4 := clampI_in (n := d) (show -x5 ≤ x5 by omega)
          obtain ⟨p, hp⟩ : ∃ p, clampI o x3 x4 = p := ⟨_, rfl⟩
          obtain ⟨q, hq⟩ : ∃ q, clampI d (-x5) x5 = q := ⟨_, rfl⟩
          rw [hp] at m3
          rw [hq] at m4
          have HP := hid hp
          have HQ := hid hq
          clear hp hq
          have hout : x3 ≤ outOf xs p ∧ outOf xs p ≤ x4 := by
            rcases xs with _ | ⟨y, ys⟩
            · simpa [outOf] using m3
            · simpa [outOf] using OKX.out y (by simp)
          have kb := keep_bounds (ga := x0) (la := x1) (lo := x3) (hi := x4) (W := x5) (v := v) (o := outOf xs p) (d := q) k1 k3 rfl hout m4 (by rw [ZL.out, ZH.out]; exact hv)
          rw [ZL.out, ZH.out] at kb
          obtain ⟨v', hv'⟩ : ∃ v', v + ((tgt x0 (outOf xs p) - v) / x1 + q) = v' := ⟨_, rfl⟩
          rw [hv'] at kb
          have HV' := hid hv'
          have okp : ∀ n ∈ pushOf xs p, x3 ≤ n ∧ n ≤ x4 := by
            intro n hn
            rcases List.mem_append.1 (List.mem_of_mem_tail hn) with h | h
            · exact OKX.out n h
            · simp at h; omega
          have OKP := hid okp
          have okx : OkL xs := fun n hn => by have := OKX.out n hn; omega
          have OKL := hid okx
          have nx := NX.out
          have lx : w.heap.size + 1 < wr.heap.size := X.out.lt
          clear hv' hout okp okx
          go_wp2_with fail
          go_region_held3 (fun w' => (∀ i, w'.cell? ⟨w.heap.size + 1, i, none⟩ = (#[.int .i64 x3, .int .i64 x4, .int .i64 x5, .int .i64 x6] : Array Value)[i]?) ∧ w'.cell? ⟨b0, off + k * 2, none⟩ = some (.int .i64 o) ∧ w'.cell? ⟨b0, off + k * 2 + 1, none⟩ = some (.int .i64 d)) (first | exact ⟨cX, c1, c2⟩ | exact s5) (first
            | (go_at_call 27; refine (clamp_any _ _ _ _).mono ?_; rintro e v9 ⟨rfl, rfl⟩; rw [HP.out])
            | (go_at_call 27; refine (clamp_any _ _ _ _).mono ?_; rintro e v9 ⟨rfl, rfl⟩; rw [HQ.out])
            | (go_at_call 19; refine (pstep_ok p q _ P.out.drew NK (by have := LEN.out; omega) OKL.out (by omega) (absB_mk (by omega) (by omega)) (absB_mk (by omega) (by omega))).mono ?_; rintro e w5 ⟨rfl, hp, hc⟩; rw [HV'.out] at hp ⊢; have C5 := hid (((Chg.refl (Fs b lb lv) wr).drew).trans hc (fun _ _ h => h)); have P5 := hid hp; have X5 := hid (X.out.keep C5.out NX1.out); have NF : ¬ Fs b lb lv b0 := NW.out _ HB0.out; have s5 := And.intro X5.out.cell (And.intro ((C5.out.cell (a := ⟨b0, off + k * 2, none⟩) l0 NF).trans c1) ((C5.out.cell (a := ⟨b0, off + k * 2 + 1, none⟩) l0 NF).trans c2)); clear hp hc))
          have L5 : Hid ((pushOf xs p).length = D) := hid (by rw [← LEN.out]; simp [pushOf])
          have B5 := hid (C5.out.then_below HBEL.out NW.out HBEL.out.size)
          clear s5 c1 c2 cX nx
          go_wp2_with (go_at_call 21; refine (pval_any _ P5.out).mono ?_; rintro e w8 ⟨rfl, rfl⟩)
          go_roundw
          case rel => exact ⟨k + 1, _, _, by omega, by go_num, P5.out, X5.out, kb, L5.out, OKP.out, B5.out⟩
          case measure => simp [intOf]; omega
        · obtain rfl : k = x7.length := by omega
          have HBEL := hid hbel
          clear hbel
          go_wp2_with (go_at_call 16; refine (awake_any _).mono ?_; rintro e w9 ⟨rfl, hb⟩)
          go_ret
          exact ⟨rfl, HBEL.out.trans (hb.mono HBEL.out.size)⟩
    · have NE := hid ne
      have nv : V < -268435456 ∨ 268435456 < V := by
        rcases Classical.em (absB V 268435456 = true) with h | h
        · exact absurd (show newErr x0 x1 D A V = 0 by unfold newErr; rw [if_neg (by omega), h, absB_mk (n := A) (m := 16777216) (by omega) (by omega)]; rfl) ne
        · exact absB_false (by simpa using h)
      have nh : lo < -268435456 ∨ 268435456 < hi := by omega
      clear ne nv
      go_region_held3 (fun w' => (∀ i, w'.cell? ⟨w.heap.size, i, none⟩ = (#[.int .i64 x0, .int .i64 x1, .int .i64 ((D : Int))] : Array Value)[i]?) ∧ (∀ i, w'.cell? ⟨w.heap.size + 1, i, none⟩ = (#[.int .i64 x3, .int .i64 x4, .int .i64 x5, .int .i64 x6] : Array Value)[i]?)) (first | exact ⟨cG_0, cX_0⟩ | exact s2) (first
        | (go_at_call 27; refine (clamp_any _ _ _ _).mono ?_; rintro e v9 ⟨rfl, rfl⟩; rw [HA.out])
        | (go_at_call 27; refine (clamp_any _ _ _ _).mono ?_; rintro e v9 ⟨rfl, rfl⟩; rw [HV.out])
        | (go_at_call 17; refine (new_bad x0 x1 D A V _ NE.out).mono ?_; rintro e w2 ⟨rfl, hb⟩; have B2 := hid ((Below.drew B1.out).trans (hb.mono (by simpa using B1.out.size))); have G2 := hid (Blk.below (Blk.drew G1.out) hb (Blk.lt (Blk.drew G1.out))); have X2 := hid (Blk.below (Blk.drew X1.out) hb (Blk.lt (Blk.drew X1.out))); have s2 := And.intro G2.out.cell X2.out.cell; clear hb))
      clear s2 cG_0 cG_1 cX_0 cX_1
      have hz : (newErr x0 x1 D A V != 0) = true := by simpa using NE.out
      rcases nh with nh | nh
      all_goals
        go_wp2_with (go_at_call 16; refine (awake_any _).mono ?_; rintro e w9 ⟨rfl, hb⟩)
        all_goals go_ret
        all_goals exact ⟨rfl, B2.out.trans (hb.mono B2.out.size)⟩
  · have HE := hid he
    have z1 : bdLo x0 x1 x2 x3 x4 x5 = 0 := by unfold bdLo; rw [if_neg he]
    have z2 : bdHi x0 x1 x2 x3 x4 x5 = 0 := by unfold bdHi; rw [if_neg he]
    have Z1 := hid z1
    have Z2 := hid z2
    clear he z1 z2
    go_enter Try.func6, Try.ntmps6
    go_wp2_with fail
    refine (bounds_any _ _ _ _ _ _ _).mono ?_
    rintro e w1 ⟨rfl, hb⟩
    have G1 : Hid (Blk w1 (w.heap.size) 23 #[.int .i64 x0, .int .i64 x1, .int .i64 x2]) := hid (Blk.below (Blk.alloc (Blk.at_new _ (by simp)) _) hb (by simp <;> omega))
    have X1 : Hid (Blk w1 (w.heap.size + 1) 41 #[.int .i64 x3, .int .i64 x4, .int .i64 x5, .int .i64 x6]) := hid (Blk.below (Blk.at_new _ (by simp)) hb (by simp <;> omega))
    have B1 : Hid (Below w.heap.size w w1) := hid (Below.trans (((Below.refl _ _).alloc (by simp <;> omega) _).alloc (by simp <;> omega) _) (hb.mono (by simp <;> omega)))
    clear hb
    have cG_0 : ∀ (i : Nat), w1.cell? ⟨w.heap.size, i, none⟩ = (#[.int .i64 x0, .int .i64 x1, .int .i64 x2] : Array Value)[i]? := Blk.cell G1.out
    have cG_1 : ∀ (o0 : Obj) (i : Nat), (w1.alloc o0).cell? ⟨w.heap.size, i, none⟩ = (#[.int .i64 x0, .int .i64 x1, .int .i64 x2] : Array Value)[i]? := fun _ => Blk.cell (Blk.alloc G1.out _)
    have cX_0 : ∀ (i : Nat), w1.cell? ⟨w.heap.size + 1, i, none⟩ = (#[.int .i64 x3, .int .i64 x4, .int .i64 x5, .int .i64 x6] : Array Value)[i]? := Blk.cell X1.out
    have cX_1 : ∀ (o0 : Obj) (i : Nat), (w1.alloc o0).cell? ⟨w.heap.size + 1, i, none⟩ = (#[.int .i64 x3, .int .i64 x4, .int .i64 x5, .int .i64 x6] : Array Value)[i]? := fun _ => Blk.cell (Blk.alloc X1.out _)
    rw [Z1.out, Z2.out]
    have hz : (bdErr x0 x1 x2 x3 x4 x5 != 0) = true := by simpa using HE.out
    go_wp2_with (go_at_call 16; refine (awake_any _).mono ?_; rintro e w9 ⟨rfl, hb⟩)
    all_goals go_ret
    all_goals exact ⟨rfl, B1.out.trans (hb.mono B1.out.size)⟩
end Go.Proofs.Ytiphcdjfmihliaa
