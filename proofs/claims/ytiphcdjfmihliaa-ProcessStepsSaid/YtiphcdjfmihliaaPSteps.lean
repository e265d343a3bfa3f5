/- ProcessSteps. -/
import Derived.Test.YtiphcdjfmihliaaTwo
import Derived.Deep.DeepCutAuto
namespace Go.Proofs.Ytiphcdjfmihliaa
open Go.RowKit

set_option maxHeartbeats 1000000 in
theorem processSteps_walk (x0 : Int) (x1 : Int) (x2 : Int) (x3 : Int) (x4 : Int) (a5 : Option Addr) (c5 : Nat) (x5 : List (List Int)) (w : World) (_h0 : (Lit.int .i64 x0).wf = true) (_h1 : (Lit.int .i64 x1).wf = true) (_h2 : (Lit.int .i64 x2).wf = true) (_h3 : (Lit.int .i64 x3).wf = true) (_h4 : (Lit.int .i64 x4).wf = true) (h5 : Rds Nn w 2 a5 x5.length (ints x5.flatten)) (g5 : x5.length ≤ c5 ∧ c5 ≤ maxLen ∧ (a5 = none → x5.length = 0 ∧ c5 = 0)) (i5 : ∀ r ∈ x5, r.length = 2 ∧ ∀ n ∈ r, (Lit.int .i64 n).wf = true) :
    Calls Try.prog 4 #[.agg #[.int .i64 x0, .int .i64 x1, .int .i64 x2], .agg #[.int .i64 x3, .int .i64 x4], .slice a5 x5.length c5] w fun e w' => e = .returned (.bool true) ∧ Below w.heap.size w w' := by
  have HR := hid h5
  have HI := hid i5
  obtain ⟨g1, g2, g3⟩ := g5
  have HN := hid g3
  clear h5 i5 g3
  by_cases hl : 80 < x5.length
  · go_enter Try.func4, Try.ntmps4
    go_wp2_with fail
    refine (awake_any _).mono ?_
    rintro e w1 ⟨rfl, hb⟩
    have HB : Hid (Below w.heap.size w w1) := hid ((((Below.refl _ _).alloc (by simp <;> omega) _).alloc (by simp <;> omega) _).trans (hb.mono (by simp <;> omega)))
    clear hb
    go_wp2
    go_ret
    exact ⟨rfl, HB.out⟩
  by_cases he : newErr x0 x1 x2 x3 x4 = 0
  · have HE := hid he
    obtain ⟨NK, N1, N2⟩ := new_ok he
    obtain ⟨D, rfl⟩ := Int.eq_ofNat_of_zero_le (chkP_ok NK).2.2.2.2.1
    clear he
    go_enter Try.func4, Try.ntmps4
    go_wp2_with fail
    refine (pnew_any _ _ _ _ _ _ HE.out).mono ?_
    rintro e w1 ⟨b, lb, lv, rfl, hp, hpg, hb⟩
    have G1 : Hid (Blk w1 (w.heap.size) 23 #[.int .i64 x0, .int .i64 x1, .int .i64 ((D : Int))]) := hid (Blk.below (Blk.alloc (Blk.at_new _ (by simp)) _) hb (by simp <;> omega))
    have X1 : Hid (Blk w1 (w.heap.size + 1) 30 #[.int .i64 x3, .int .i64 x4]) := hid (Blk.below (Blk.at_new _ (by simp)) hb (by simp <;> omega))
    have B1 : Hid (Below w.heap.size w w1) := hid (Below.trans (((Below.refl _ _).alloc (by simp <;> omega) _).alloc (by simp <;> omega) _) (hb.mono (by simp <;> omega)))
    clear hb
    have cG_0 : ∀ (i : Nat), w1.cell? ⟨w.heap.size, i, none⟩ = (#[.int .i64 x0, .int .i64 x1, .int .i64 ((D : Int))] : Array Value)[i]? := Blk.cell G1.out
    have cG_1 : ∀ (o0 : Obj) (i : Nat), (w1.alloc o0).cell? ⟨w.heap.size, i, none⟩ = (#[.int .i64 x0, .int .i64 x1, .int .i64 ((D : Int))] : Array Value)[i]? := fun _ => Blk.cell (Blk.alloc G1.out _)
    have cX_0 : ∀ (i : Nat), w1.cell? ⟨w.heap.size + 1, i, none⟩ = (#[.int .i64 x3, .int .i64 x4] : Array Value)[i]? := Blk.cell X1.out
    have cX_1 : ∀ (o0 : Obj) (i : Nat), (w1.alloc o0).cell? ⟨w.heap.size + 1, i, none⟩ = (#[.int .i64 x3, .int .i64 x4] : Array Value)[i]? := fun _ => Blk.cell (Blk.alloc X1.out _)
    have HP := hid hp
    have HPG := hid hpg
    clear hp hpg
    go_wp2_with fail
    refine (rsnew_any _ _ _ _ _ _ HE.out).mono ?_
    rintro e w2 ⟨rb, rlv, rfl, hr, hrg, hb⟩
    have G2 := hid (Blk.below G1.out hb (Blk.lt G1.out))
    have X2 := hid (Blk.below X1.out hb (Blk.lt X1.out))
    have B2 : Hid (Below w.heap.size w w2) := hid (Below.trans B1.out (hb.mono (Nat.le_trans B1.out.size (by simp <;> omega))))
    have T2 : Hid (Two w w2 0 b lb rb lv rlv x0 x1 x4 D (List.replicate (D : Int).toNat x3) []) := hid ⟨HP.out.below hb, by simpa using hr, NK, by simp, okl_rep N1, by simp, by have := absB_true N2; omega, fun j hj => Nat.le_trans (by simp; omega) (HPG.out j hj), fun j hj => Nat.le_trans B1.out.size (hrg j hj), fun j hj hf => by have h1 := HP.out.lt j hj; have h2 := hrg j hf; omega, B2.out⟩
    clear hb hr hrg
    clear cG_0 cG_1 cX_0 cX_1
    go_wp2
    go_loopw [11] (fun i wr => ∃ (k : Nat) (v : Int) (xs pre : List Int) (rlv : Value), k ≤ x5.length ∧ i = .int .i64 k ∧ Two w wr k b lb rb lv rlv x0 x1 v D xs pre) (fun i _ => x5.length - (intOf i).toNat)
    case atStart => exact ⟨0, _, _, _, _, Nat.zero_le _, rfl, T2.out⟩
    case round =>
      obtain ⟨k, v, xs, pre, rlv, hk, rfl, hT⟩ := hrel
      have T := hid hT
      have hbel := hT.bel
      clear hT
      by_cases hlt : k < x5.length
      · have H80 : k ≤ 600 := by omega
        obtain ⟨b0, off, rfl, hb0, _, hrd⟩ := Rds.plain HR.out (by omega) (by decide)
        obtain ⟨o, d, hrow, ho, hd, _, _⟩ := pair_at HI.out hlt
        have c1 : wr.cell? ⟨b0, off + k * 2, none⟩ = some (.int .i64 o) := by
          have := hrd _ _ ho; rw [← this, Nat.mul_comm]; exact World.cell?_of_block (hbel.block _ hb0)
        have c2 : wr.cell? ⟨b0, off + k * 2 + 1, none⟩ = some (.int .i64 d) := by
          have := hrd _ _ hd; rw [← this, Nat.mul_comm]; exact World.cell?_of_block (hbel.block _ hb0)
        have l0 := Nat.lt_of_lt_of_le hb0 hbel.size
        have HB0 := hid hb0
        clear hrd hrow ho hd hb0
        have HBEL := hid hbel
        clear hbel
        go_wp2_with fail
        go_region_held3 (fun w' => w'.cell? ⟨b0, off + k * 2, none⟩ = some (.int .i64 o) ∧ w'.cell? ⟨b0, off + k * 2 + 1, none⟩ = some (.int .i64 d)) (first | exact ⟨c1, c2⟩ | exact s5) (first
          | (go_at_call 19; refine (pstep_any o d _ T.out.p.drew T.out.chk T.out.short T.out.okl (T.out.small H80)).mono ?_; rintro e w5 ⟨rfl, hp, hc⟩; have HC := hid (((Chg.refl (Fs b lb lv) wr).drew).trans hc (fun _ _ h => h)); have S5 := hid (T.out.stepP HC.out); have P5 := hid hp; have NF : Hid (¬ Fs b lb lv b0) := hid (fun hf => by have h1 := T.out.pge _ hf; have h2 := HB0.out; omega); have s5 := And.intro ((HC.out.cell (a := ⟨b0, off + k * 2, none⟩) l0 NF.out).trans c1) ((HC.out.cell (a := ⟨b0, off + k * 2 + 1, none⟩) l0 NF.out).trans c2); clear hp hc))
        have c3 := s5.1
        have c4 := s5.2
        have l5 := Nat.lt_of_lt_of_le l0 HC.out.size
        clear s5 c1 c2
        go_wp2_with fail
        go_region_held3 (fun w' => w'.cell? ⟨b0, off + k * 2, none⟩ = some (.int .i64 o) ∧ w'.cell? ⟨b0, off + k * 2 + 1, none⟩ = some (.int .i64 d)) (first | exact ⟨c3, c4⟩ | exact s7) (first
          | (go_at_call 20; refine (rsstep_any o d _ T.out.len S5.out.1.drew T.out.chk (Nat.le_trans T.out.pl (by omega)) T.out.okl (T.out.small H80)).mono ?_; rintro e w7 ⟨rlv2, pre2, rfl, hr, hpl, hc, hn⟩; have HC7 := hid (((Chg.refl (Fr rb rlv) w5).drew).trans hc (fun _ _ h => h)); have T7 := hid (T.out.stepR S5.out.2 P5.out hr HC7.out hn (pxs_len.trans T.out.len) (okl_push T.out.okl) (Nat.le_trans hpl (by have := T.out.pl; omega)) (pv_bd T.out.chk T.out.okl T.out.vb)); have NF7 : Hid (¬ Fr rb rlv b0) := hid (fun hf => by have h1 := T.out.rge _ hf; have h2 := HB0.out; omega); have s7 := And.intro ((HC7.out.cell (a := ⟨b0, off + k * 2, none⟩) l5 NF7.out).trans c3) ((HC7.out.cell (a := ⟨b0, off + k * 2 + 1, none⟩) l5 NF7.out).trans c4); clear hr hpl hc hn))
        clear s7 c3 c4
        go_wp2_with (first
          | (go_at_call 21; refine (pval_any _ T7.out.p).mono ?_; rintro e w8 ⟨rfl, rfl⟩)
          | (go_at_call 22; refine (rsval_any _ T7.out.r).mono ?_; rintro e w8 ⟨rfl, rfl⟩))
        go_roundw
        case rel => exact ⟨k + 1, _, _, _, _, by omega, by go_num, T7.out⟩
        case measure => simp [intOf]; omega
      · obtain rfl : k = x5.length := by omega
        have HBEL := hid hbel
        clear hbel
        go_wp2_with fail
        refine (awake_any _).mono ?_
        rintro e w9 ⟨rfl, hb⟩
        go_wp2
        go_ret
        exact ⟨rfl, HBEL.out.trans (hb.mono HBEL.out.size)⟩
  · have HE := hid he
    go_enter Try.func4, Try.ntmps4
    go_wp2_with fail
    refine (new_bad _ _ _ _ _ _ HE.out).mono ?_
    rintro e w1 ⟨rfl, hb⟩
    have G1 : Hid (Blk w1 (w.heap.size) 23 #[.int .i64 x0, .int .i64 x1, .int .i64 x2]) := hid (Blk.below (Blk.alloc (Blk.at_new _ (by simp)) _) hb (by simp <;> omega))
    have X1 : Hid (Blk w1 (w.heap.size + 1) 30 #[.int .i64 x3, .int .i64 x4]) := hid (Blk.below (Blk.at_new _ (by simp)) hb (by simp <;> omega))
    have B1 : Hid (Below w.heap.size w w1) := hid (Below.trans (((Below.refl _ _).alloc (by simp <;> omega) _).alloc (by simp <;> omega) _) (hb.mono (by simp <;> omega)))
    clear hb
    have cG_0 : ∀ (i : Nat), w1.cell? ⟨w.heap.size, i, none⟩ = (#[.int .i64 x0, .int .i64 x1, .int .i64 x2] : Array Value)[i]? := Blk.cell G1.out
    have cG_1 : ∀ (o0 : Obj) (i : Nat), (w1.alloc o0).cell? ⟨w.heap.size, i, none⟩ = (#[.int .i64 x0, .int .i64 x1, .int .i64 x2] : Array Value)[i]? := fun _ => Blk.cell (Blk.alloc G1.out _)
    have cX_0 : ∀ (i : Nat), w1.cell? ⟨w.heap.size + 1, i, none⟩ = (#[.int .i64 x3, .int .i64 x4] : Array Value)[i]? := Blk.cell X1.out
    have cX_1 : ∀ (o0 : Obj) (i : Nat), (w1.alloc o0).cell? ⟨w.heap.size + 1, i, none⟩ = (#[.int .i64 x3, .int .i64 x4] : Array Value)[i]? := fun _ => Blk.cell (Blk.alloc X1.out _)
    go_wp2_with fail
    refine (rsnew_bad _ _ _ _ _ _ HE.out).mono ?_
    rintro e w2 ⟨rfl, hb⟩
    have G2 := hid (Blk.below G1.out hb (Blk.lt G1.out))
    have X2 := hid (Blk.below X1.out hb (Blk.lt X1.out))
    have B2 : Hid (Below w.heap.size w w2) := hid (Below.trans B1.out (hb.mono (Nat.le_trans B1.out.size (by simp <;> omega))))
    clear hb
    clear cG_0 cG_1 cX_0 cX_1
    have cG_0 : ∀ (i : Nat), w2.cell? ⟨w.heap.size, i, none⟩ = (#[.int .i64 x0, .int .i64 x1, .int .i64 x2] : Array Value)[i]? := Blk.cell G2.out
    have cG_1 : ∀ (o0 : Obj) (i : Nat), (w2.alloc o0).cell? ⟨w.heap.size, i, none⟩ = (#[.int .i64 x0, .int .i64 x1, .int .i64 x2] : Array Value)[i]? := fun _ => Blk.cell (Blk.alloc G2.out _)
    have cX_0 : ∀ (i : Nat), w2.cell? ⟨w.heap.size + 1, i, none⟩ = (#[.int .i64 x3, .int .i64 x4] : Array Value)[i]? := Blk.cell X2.out
    have cX_1 : ∀ (o0 : Obj) (i : Nat), (w2.alloc o0).cell? ⟨w.heap.size + 1, i, none⟩ = (#[.int .i64 x3, .int .i64 x4] : Array Value)[i]? := fun _ => Blk.cell (Blk.alloc X2.out _)
    clear cG_0 cG_1 cX_0 cX_1
    have hz : (newErr x0 x1 x2 x3 x4 != 0) = true := by simpa using HE.out
    go_wp2
    go_loopw [11] (fun i wr => i = .int .i64 0 ∧ Below w.heap.size w wr) (fun _ _ => 0)
    case atStart => exact ⟨rfl, B2.out⟩
    case round =>
      obtain ⟨rfl, hbel⟩ := hrel
      have HBEL := hid hbel
      clear hbel
      by_cases hlt : 0 < x5.length
      all_goals
        go_wp2_with (go_at_call 16; refine (awake_any _).mono ?_; rintro e w9 ⟨rfl, hb⟩)
        go_ret
        exact ⟨rfl, HBEL.out.trans (hb.mono HBEL.out.size)⟩
end Go.Proofs.Ytiphcdjfmihliaa
