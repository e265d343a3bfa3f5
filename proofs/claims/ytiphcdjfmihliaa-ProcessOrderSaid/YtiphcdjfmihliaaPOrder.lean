/- ProcessOrder. -/
import Derived.Test.YtiphcdjfmihliaaPair
import Derived.Deep.DeepCutAuto
namespace Go.Proofs.Ytiphcdjfmihliaa
open Go.RowKit

set_option maxHeartbeats 8000000 in
theorem processOrder_walk (x0 : Int) (x1 : Int) (x2 : Int) (x3 : Int) (x4 : Int) (x5 : Int) (a6 : Option Addr) (c6 : Nat) (x6 : List (List Int)) (w : World) (_h0 : (Lit.int .i64 x0).wf = true) (_h1 : (Lit.int .i64 x1).wf = true) (_h2 : (Lit.int .i64 x2).wf = true) (_h3 : (Lit.int .i64 x3).wf = true) (_h4 : (Lit.int .i64 x4).wf = true) (_h5 : (Lit.int .i64 x5).wf = true) (h6 : Rds Nn w 2 a6 x6.length (ints x6.flatten)) (g6 : x6.length ≤ c6 ∧ c6 ≤ maxLen ∧ (a6 = none → x6.length = 0 ∧ c6 = 0)) (i6 : ∀ r ∈ x6, r.length = 2 ∧ ∀ n ∈ r, (Lit.int .i64 n).wf = true) :
    Calls Try.prog 7 #[.agg #[.int .i64 x0, .int .i64 x1, .int .i64 x2], .agg #[.int .i64 x3, .int .i64 x4, .int .i64 x5], .slice a6 x6.length c6] w fun e w' => e = .returned (.bool true) ∧ Below w.heap.size w w' := by
  have HR := hid h6
  have HI := hid i6
  obtain ⟨g1, g2, g3⟩ := g6
  have HN := hid g3
  clear h6 i6 g3
  by_cases hl : 80 < x6.length
  · go_enter Try.func7, Try.ntmps7
    go_wp2_with fail
    refine (awake_any _).mono ?_
    rintro e w1 ⟨rfl, hb⟩
    have HB : Hid (Below w.heap.size w w1) := hid ((((Below.refl _ _).alloc (by simp <;> omega) _).alloc (by simp <;> omega) _).trans (hb.mono (by simp <;> omega)))
    clear hb
    go_wp2
    go_ret
    exact ⟨rfl, HB.out⟩
  rcases Int.lt_trichotomy x5 x4 with hx | hx | hx
  · by_cases he : newErr x0 x1 x2 x3 x5 = 0
    · have HE := hid he
      by_cases he2 : newErr x0 x1 x2 x3 x4 = 0
      · have HE2 := hid he2
        obtain ⟨NK, N1, N2⟩ := new_ok he
        obtain ⟨NK2, N3, N4⟩ := new_ok he2
        obtain ⟨D, rfl⟩ := Int.eq_ofNat_of_zero_le (chkP_ok NK).2.2.2.2.1
        clear he he2
        go_enter Try.func7, Try.ntmps7
        go_wp2_with fail
        refine (pnew_any _ _ _ _ _ _ HE.out).mono ?_
        rintro e w1 ⟨b, lb, lv, rfl, hp, hpg, hb⟩
        have G1 : Hid (Blk w1 (w.heap.size) 23 #[.int .i64 x0, .int .i64 x1, .int .i64 ((D : Int))]) := hid (Blk.below (Blk.alloc (Blk.at_new _ (by simp)) _) hb (by simp <;> omega))
        have X1 : Hid (Blk w1 (w.heap.size + 1) 48 #[.int .i64 x3, .int .i64 x4, .int .i64 x5]) := hid (Blk.below (Blk.at_new _ (by simp)) hb (by simp <;> omega))
        have B1 : Hid (Below w.heap.size w w1) := hid (Below.trans (((Below.refl _ _).alloc (by simp <;> omega) _).alloc (by simp <;> omega) _) (hb.mono (by simp <;> omega)))
        clear hb
        have cG_0 : ∀ (i : Nat), w1.cell? ⟨w.heap.size, i, none⟩ = (#[.int .i64 x0, .int .i64 x1, .int .i64 ((D : Int))] : Array Value)[i]? := Blk.cell G1.out
        have cG_1 : ∀ (o0 : Obj) (i : Nat), (w1.alloc o0).cell? ⟨w.heap.size, i, none⟩ = (#[.int .i64 x0, .int .i64 x1, .int .i64 ((D : Int))] : Array Value)[i]? := fun _ => Blk.cell (Blk.alloc G1.out _)
        have cX_0 : ∀ (i : Nat), w1.cell? ⟨w.heap.size + 1, i, none⟩ = (#[.int .i64 x3, .int .i64 x4, .int .i64 x5] : Array Value)[i]? := Blk.cell X1.out
        have cX_1 : ∀ (o0 : Obj) (i : Nat), (w1.alloc o0).cell? ⟨w.heap.size + 1, i, none⟩ = (#[.int .i64 x3, .int .i64 x4, .int .i64 x5] : Array Value)[i]? := fun _ => Blk.cell (Blk.alloc X1.out _)
        have HP := hid hp
        have HPG := hid hpg
        clear hp hpg
        go_wp2_with fail
        refine (pnew_any _ _ _ _ _ _ HE2.out).mono ?_
        rintro e w2 ⟨b2, lb2, lv2, rfl, hq, hqg, hb⟩
        have G2 := hid (Blk.below G1.out hb (Blk.lt G1.out))
        have X2 := hid (Blk.below X1.out hb (Blk.lt X1.out))
        have B2 : Hid (Below w.heap.size w w2) := hid (Below.trans B1.out (hb.mono (Nat.le_trans B1.out.size (by simp <;> omega))))
        have T2 : Hid (Pair w w2 0 b lb b2 lb2 lv lv2 x0 x1 x5 x4 D (List.replicate (D : Int).toNat x3) (List.replicate (D : Int).toNat x3)) := hid ⟨HP.out.below hb, hq, NK, by simp, by simp, okl_rep N1, okl_rep N1, by have := absB_true N2; omega, by have := absB_true N4; omega, fun j hj => Nat.le_trans (by simp; omega) (HPG.out j hj), fun j hj => Nat.le_trans B1.out.size (hqg j hj), fun j hj hf => by have h1 := HP.out.lt j hj; have h2 := hqg j hf; omega, B2.out⟩
        clear hb hq hqg
        go_wp2
        go_loopw [11] (fun i wr => ∃ (k : Nat) (v v2 : Int) (xs : List Int), k ≤ x6.length ∧ i = .int .i64 k ∧ Pair w wr k b lb b2 lb2 lv lv2 x0 x1 v v2 D xs xs ∧ v ≤ v2) (fun i _ => x6.length - (intOf i).toNat)
        case atStart => exact ⟨0, _, _, _, Nat.zero_le _, rfl, T2.out, by omega⟩
        case round =>
          obtain ⟨k, v, v2, xs, hk, rfl, hT, hle⟩ := hrel
          have T := hid hT
          have LE := hid hle
          have hbel := hT.bel
          clear hT hle
          by_cases hlt : k < x6.length
          · have H80 : k ≤ 600 := by omega
            obtain ⟨b0, off, rfl, hb0, _, hrd⟩ := Rds.plain HR.out (by omega) (by decide)
            obtain ⟨o, d, hrow, ho, hd, wfo, wfd⟩ := pair_at HI.out hlt
            have c1 : wr.cell? ⟨b0, off + k * 2, none⟩ = some (.int .i64 o) := by
              have := hrd _ _ ho; rw [← this, Nat.mul_comm]; exact World.cell?_of_block (hbel.block _ hb0)
            have c2 : wr.cell? ⟨b0, off + k * 2 + 1, none⟩ = some (.int .i64 d) := by
              have := hrd _ _ hd; rw [← this, Nat.mul_comm]; exact World.cell?_of_block (hbel.block _ hb0)
            have l0 := Nat.lt_of_lt_of_le hb0 hbel.size
            have HB0 := hid hb0
            clear hrd ho hd hb0
            have HBEL := hid hbel
            clear hbel
            go_wp2_with fail
            go_region_held3 (fun w' => w'.cell? ⟨b0, off + k * 2, none⟩ = some (.int .i64 o) ∧ w'.cell? ⟨b0, off + k * 2 + 1, none⟩ = some (.int .i64 d)) (first | exact ⟨c1, c2⟩ | exact s1) (first
              | (go_at_call 19; refine (pstep_any o d _ T.out.p.drew T.out.chk T.out.short.1 T.out.okl (T.out.small H80)).mono ?_; rintro e v1 ⟨rfl, hp, hc⟩; have C1 := hid (((Chg.refl (Fs b lb lv) wr).drew).trans hc (fun _ _ h => h)); have P1 := hid hp; have F1 : Hid (¬ Fs b lb lv b0) := hid (fun hf => by have h1 := T.out.pge _ hf; have h2 := HB0.out; omega); have s1 := And.intro ((C1.out.cell (a := ⟨b0, off + k * 2, none⟩) l0 F1.out).trans c1) ((C1.out.cell (a := ⟨b0, off + k * 2 + 1, none⟩) l0 F1.out).trans c2); have S1 := hid (T.out.stepP C1.out); clear hp hc))
            have l1 := Nat.lt_of_lt_of_le l0 C1.out.size
            have d1 := s1.1
            have d2 := s1.2
            clear s1 c1 c2
            go_wp2_with fail
            go_region_held3 (fun w' => w'.cell? ⟨b0, off + k * 2, none⟩ = some (.int .i64 o) ∧ w'.cell? ⟨b0, off + k * 2 + 1, none⟩ = some (.int .i64 d)) (first | exact ⟨d1, d2⟩ | exact s2) (first
              | (go_at_call 19; refine (pstep_any o d _ S1.out.1.drew T.out.chk T.out.short.2 T.out.okl2 (T.out.small2 H80)).mono ?_; rintro e v2 ⟨rfl, hp, hc⟩; have C2 := hid (((Chg.refl (Fs b2 lb2 lv2) v1).drew).trans hc (fun _ _ h => h)); have P2 := hid hp; have F2 : Hid (¬ Fs b2 lb2 lv2 b0) := hid (fun hf => by have h1 := T.out.qge _ hf; have h2 := HB0.out; omega); have s2 := And.intro ((C2.out.cell (a := ⟨b0, off + k * 2, none⟩) l1 F2.out).trans d1) ((C2.out.cell (a := ⟨b0, off + k * 2 + 1, none⟩) l1 F2.out).trans d2); have T7 := hid (T.out.stepQ S1.out.2 P1.out hp C2.out (pxs_len.trans T.out.len) (okl_push T.out.okl) (pv_bd T.out.chk T.out.okl T.out.vb) (pxs_len.trans T.out.len2) (okl_push T.out.okl2) (pv_bd T.out.chk T.out.okl2 T.out.vb2)); clear hp hc))
            clear s2 d1 d2
            have po := pr_order (ga := x0) (xs := xs) (o := o) (d := d) (chkP_ok T.out.chk).2.2.1 LE.out
            have PO := hid po.1
            have po2 := po.2
            clear po
            go_wp2
            go_roundw
            case rel => exact ⟨k + 1, _, _, _, by omega, by go_num, T7.out, PO.out⟩
            case measure => simp [intOf]; omega
          · obtain rfl : k = x6.length := by omega
            have HBEL := hid hbel
            clear hbel
            have le2 := LE.out
            go_wp2_with (first
              | (go_at_call 21; refine (pval_any _ T.out.p).mono ?_; rintro e w8 ⟨rfl, rfl⟩)
              | (go_at_call 21; refine (pval_any _ T.out.q).mono ?_; rintro e w8 ⟨rfl, rfl⟩)
              | (go_at_call 16; refine (awake_any _).mono ?_; rintro e w9 ⟨rfl, hb⟩))
            go_ret
            exact ⟨rfl, HBEL.out.trans (hb.mono HBEL.out.size)⟩
      · have HE2 := hid he2
        clear he he2
        go_enter Try.func7, Try.ntmps7
        go_wp2_with fail
        refine (pnew_any _ _ _ _ _ _ HE.out).mono ?_
        rintro e w1 ⟨b, lb, lv, rfl, hp, hpg, hb⟩
        have G1 : Hid (Blk w1 (w.heap.size) 23 #[.int .i64 x0, .int .i64 x1, .int .i64 x2]) := hid (Blk.below (Blk.alloc (Blk.at_new _ (by simp)) _) hb (by simp <;> omega))
        have X1 : Hid (Blk w1 (w.heap.size + 1) 48 #[.int .i64 x3, .int .i64 x4, .int .i64 x5]) := hid (Blk.below (Blk.at_new _ (by simp)) hb (by simp <;> omega))
        have B1 : Hid (Below w.heap.size w w1) := hid (Below.trans (((Below.refl _ _).alloc (by simp <;> omega) _).alloc (by simp <;> omega) _) (hb.mono (by simp <;> omega)))
        clear hb
        have cG_0 : ∀ (i : Nat), w1.cell? ⟨w.heap.size, i, none⟩ = (#[.int .i64 x0, .int .i64 x1, .int .i64 x2] : Array Value)[i]? := Blk.cell G1.out
        have cG_1 : ∀ (o0 : Obj) (i : Nat), (w1.alloc o0).cell? ⟨w.heap.size, i, none⟩ = (#[.int .i64 x0, .int .i64 x1, .int .i64 x2] : Array Value)[i]? := fun _ => Blk.cell (Blk.alloc G1.out _)
        have cX_0 : ∀ (i : Nat), w1.cell? ⟨w.heap.size + 1, i, none⟩ = (#[.int .i64 x3, .int .i64 x4, .int .i64 x5] : Array Value)[i]? := Blk.cell X1.out
        have cX_1 : ∀ (o0 : Obj) (i : Nat), (w1.alloc o0).cell? ⟨w.heap.size + 1, i, none⟩ = (#[.int .i64 x3, .int .i64 x4, .int .i64 x5] : Array Value)[i]? := fun _ => Blk.cell (Blk.alloc X1.out _)
        have HP := hid hp
        have HPG := hid hpg
        clear hp hpg
        go_wp2_with fail
        refine (new_bad _ _ _ _ _ _ HE2.out).mono ?_
        rintro e w2 ⟨rfl, hb⟩
        have G2 := hid (Blk.below G1.out hb (Blk.lt G1.out))
        have X2 := hid (Blk.below X1.out hb (Blk.lt X1.out))
        have B2 : Hid (Below w.heap.size w w2) := hid (Below.trans B1.out (hb.mono (Nat.le_trans B1.out.size (by simp <;> omega))))
        clear hb
        clear cG_0 cG_1 cX_0 cX_1
        have hz1 : (newErr x0 x1 x2 x3 x4 != 0) = true := by simpa using HE2.out
        go_wp2_with (go_at_call 16; refine (awake_any _).mono ?_; rintro e w9 ⟨rfl, hb⟩)
        all_goals go_ret
        all_goals exact ⟨rfl, B2.out.trans (hb.mono B2.out.size)⟩
    · have HE := hid he
      by_cases he2 : newErr x0 x1 x2 x3 x4 = 0
      · have HE2 := hid he2
        clear he he2
        go_enter Try.func7, Try.ntmps7
        go_wp2_with fail
        refine (new_bad _ _ _ _ _ _ HE.out).mono ?_
        rintro e w1 ⟨rfl, hb⟩
        have G1 : Hid (Blk w1 (w.heap.size) 23 #[.int .i64 x0, .int .i64 x1, .int .i64 x2]) := hid (Blk.below (Blk.alloc (Blk.at_new _ (by simp)) _) hb (by simp <;> omega))
        have X1 : Hid (Blk w1 (w.heap.size + 1) 48 #[.int .i64 x3, .int .i64 x4, .int .i64 x5]) := hid (Blk.below (Blk.at_new _ (by simp)) hb (by simp <;> omega))
        have B1 : Hid (Below w.heap.size w w1) := hid (Below.trans (((Below.refl _ _).alloc (by simp <;> omega) _).alloc (by simp <;> omega) _) (hb.mono (by simp <;> omega)))
        clear hb
        have cG_0 : ∀ (i : Nat), w1.cell? ⟨w.heap.size, i, none⟩ = (#[.int .i64 x0, .int .i64 x1, .int .i64 x2] : Array Value)[i]? := Blk.cell G1.out
        have cG_1 : ∀ (o0 : Obj) (i : Nat), (w1.alloc o0).cell? ⟨w.heap.size, i, none⟩ = (#[.int .i64 x0, .int .i64 x1, .int .i64 x2] : Array Value)[i]? := fun _ => Blk.cell (Blk.alloc G1.out _)
        have cX_0 : ∀ (i : Nat), w1.cell? ⟨w.heap.size + 1, i, none⟩ = (#[.int .i64 x3, .int .i64 x4, .int .i64 x5] : Array Value)[i]? := Blk.cell X1.out
        have cX_1 : ∀ (o0 : Obj) (i : Nat), (w1.alloc o0).cell? ⟨w.heap.size + 1, i, none⟩ = (#[.int .i64 x3, .int .i64 x4, .int .i64 x5] : Array Value)[i]? := fun _ => Blk.cell (Blk.alloc X1.out _)
        go_wp2_with fail
        refine (pnew_any _ _ _ _ _ _ HE2.out).mono ?_
        rintro e w2 ⟨b2, lb2, lv2, rfl, hq, hqg, hb⟩
        have G2 := hid (Blk.below G1.out hb (Blk.lt G1.out))
        have X2 := hid (Blk.below X1.out hb (Blk.lt X1.out))
        have B2 : Hid (Below w.heap.size w w2) := hid (Below.trans B1.out (hb.mono (Nat.le_trans B1.out.size (by simp <;> omega))))
        clear hb
        clear cG_0 cG_1 cX_0 cX_1
        have hz0 : (newErr x0 x1 x2 x3 x5 != 0) = true := by simpa using HE.out
        go_wp2_with (go_at_call 16; refine (awake_any _).mono ?_; rintro e w9 ⟨rfl, hb⟩)
        all_goals go_ret
        all_goals exact ⟨rfl, B2.out.trans (hb.mono B2.out.size)⟩
      · have HE2 := hid he2
        clear he he2
        go_enter Try.func7, Try.ntmps7
        go_wp2_with fail
        refine (new_bad _ _ _ _ _ _ HE.out).mono ?_
        rintro e w1 ⟨rfl, hb⟩
        have G1 : Hid (Blk w1 (w.heap.size) 23 #[.int .i64 x0, .int .i64 x1, .int .i64 x2]) := hid (Blk.below (Blk.alloc (Blk.at_new _ (by simp)) _) hb (by simp <;> omega))
        have X1 : Hid (Blk w1 (w.heap.size + 1) 48 #[.int .i64 x3, .int .i64 x4, .int .i64 x5]) := hid (Blk.below (Blk.at_new _ (by simp)) hb (by simp <;> omega))
        have B1 : Hid (Below w.heap.size w w1) := hid (Below.trans (((Below.refl _ _).alloc (by simp <;> omega) _).alloc (by simp <;> omega) _) (hb.mono (by simp <;> omega)))
        clear hb
        have cG_0 : ∀ (i : Nat), w1.cell? ⟨w.heap.size, i, none⟩ = (#[.int .i64 x0, .int .i64 x1, .int .i64 x2] : Array Value)[i]? := Blk.cell G1.out
        have cG_1 : ∀ (o0 : Obj) (i : Nat), (w1.alloc o0).cell? ⟨w.heap.size, i, none⟩ = (#[.int .i64 x0, .int .i64 x1, .int .i64 x2] : Array Value)[i]? := fun _ => Blk.cell (Blk.alloc G1.out _)
        have cX_0 : ∀ (i : Nat), w1.cell? ⟨w.heap.size + 1, i, none⟩ = (#[.int .i64 x3, .int .i64 x4, .int .i64 x5] : Array Value)[i]? := Blk.cell X1.out
        have cX_1 : ∀ (o0 : Obj) (i : Nat), (w1.alloc o0).cell? ⟨w.heap.size + 1, i, none⟩ = (#[.int .i64 x3, .int .i64 x4, .int .i64 x5] : Array Value)[i]? := fun _ => Blk.cell (Blk.alloc X1.out _)
        go_wp2_with fail
        refine (new_bad _ _ _ _ _ _ HE2.out).mono ?_
        rintro e w2 ⟨rfl, hb⟩
        have G2 := hid (Blk.below G1.out hb (Blk.lt G1.out))
        have X2 := hid (Blk.below X1.out hb (Blk.lt X1.out))
        have B2 : Hid (Below w.heap.size w w2) := hid (Below.trans B1.out (hb.mono (Nat.le_trans B1.out.size (by simp <;> omega))))
        clear hb
        clear cG_0 cG_1 cX_0 cX_1
        have hz0 : (newErr x0 x1 x2 x3 x5 != 0) = true := by simpa using HE.out
        have hz1 : (newErr x0 x1 x2 x3 x4 != 0) = true := by simpa using HE2.out
        go_wp2_with (go_at_call 16; refine (awake_any _).mono ?_; rintro e w9 ⟨rfl, hb⟩)
        all_goals go_ret
        all_goals exact ⟨rfl, B2.out.trans (hb.mono B2.out.size)⟩
  · obtain rfl := hx
    by_cases he : newErr x0 x1 x2 x3 x5 = 0
    · have HE := hid he
      by_cases he2 : newErr x0 x1 x2 x3 x5 = 0
      · have HE2 := hid he2
        obtain ⟨NK, N1, N2⟩ := new_ok he
        obtain ⟨NK2, N3, N4⟩ := new_ok he2
        obtain ⟨D, rfl⟩ := Int.eq_ofNat_of_zero_le (chkP_ok NK).2.2.2.2.1
        clear he he2
        go_enter Try.func7, Try.ntmps7
        go_wp2_with fail
        refine (pnew_any _ _ _ _ _ _ HE.out).mono ?_
        rintro e w1 ⟨b, lb, lv, rfl, hp, hpg, hb⟩
        have G1 : Hid (Blk w1 (w.heap.size) 23 #[.int .i64 x0, .int .i64 x1, .int .i64 ((D : Int))]) := hid (Blk.below (Blk.alloc (Blk.at_new _ (by simp)) _) hb (by simp <;> omega))
        have X1 : Hid (Blk w1 (w.heap.size + 1) 48 #[.int .i64 x3, .int .i64 x5, .int .i64 x5]) := hid (Blk.below (Blk.at_new _ (by simp)) hb (by simp <;> omega))
        have B1 : Hid (Below w.heap.size w w1) := hid (Below.trans (((Below.refl _ _).alloc (by simp <;> omega) _).alloc (by simp <;> omega) _) (hb.mono (by simp <;> omega)))
        clear hb
        have cG_0 : ∀ (i : Nat), w1.cell? ⟨w.heap.size, i, none⟩ = (#[.int .i64 x0, .int .i64 x1, .int .i64 ((D : Int))] : Array Value)[i]? := Blk.cell G1.out
        have cG_1 : ∀ (o0 : Obj) (i : Nat), (w1.alloc o0).cell? ⟨w.heap.size, i, none⟩ = (#[.int .i64 x0, .int .i64 x1, .int .i64 ((D : Int))] : Array Value)[i]? := fun _ => Blk.cell (Blk.alloc G1.out _)
        have cX_0 : ∀ (i : Nat), w1.cell? ⟨w.heap.size + 1, i, none⟩ = (#[.int .i64 x3, .int .i64 x5, .int .i64 x5] : Array Value)[i]? := Blk.cell X1.out
        have cX_1 : ∀ (o0 : Obj) (i : Nat), (w1.alloc o0).cell? ⟨w.heap.size + 1, i, none⟩ = (#[.int .i64 x3, .int .i64 x5, .int .i64 x5] : Array Value)[i]? := fun _ => Blk.cell (Blk.alloc X1.out _)
        have HP := hid hp
        have HPG := hid hpg
        clear hp hpg
        go_wp2_with fail
        refine (pnew_any _ _ _ _ _ _ HE2.out).mono ?_
        rintro e w2 ⟨b2, lb2, lv2, rfl, hq, hqg, hb⟩
        have G2 := hid (Blk.below G1.out hb (Blk.lt G1.out))
        have X2 := hid (Blk.below X1.out hb (Blk.lt X1.out))
        have B2 : Hid (Below w.heap.size w w2) := hid (Below.trans B1.out (hb.mono (Nat.le_trans B1.out.size (by simp <;> omega))))
        have T2 : Hid (Pair w w2 0 b lb b2 lb2 lv lv2 x0 x1 x5 x5 D (List.replicate (D : Int).toNat x3) (List.replicate (D : Int).toNat x3)) := hid ⟨HP.out.below hb, hq, NK, by simp, by simp, okl_rep N1, okl_rep N1, by have := absB_true N2; omega, by have := absB_true N4; omega, fun j hj => Nat.le_trans (by simp; omega) (HPG.out j hj), fun j hj => Nat.le_trans B1.out.size (hqg j hj), fun j hj hf => by have h1 := HP.out.lt j hj; have h2 := hqg j hf; omega, B2.out⟩
        clear hb hq hqg
        go_wp2
        go_loopw [11] (fun i wr => ∃ (k : Nat) (v v2 : Int) (xs : List Int), k ≤ x6.length ∧ i = .int .i64 k ∧ Pair w wr k b lb b2 lb2 lv lv2 x0 x1 v v2 D xs xs ∧ v ≤ v2) (fun i _ => x6.length - (intOf i).toNat)
        case atStart => exact ⟨0, _, _, _, Nat.zero_le _, rfl, T2.out, by omega⟩
        case round =>
          obtain ⟨k, v, v2, xs, hk, rfl, hT, hle⟩ := hrel
          have T := hid hT
          have LE := hid hle
          have hbel := hT.bel
          clear hT hle
          by_cases hlt : k < x6.length
          · have H80 : k ≤ 600 := by omega
            obtain ⟨b0, off, rfl, hb0, _, hrd⟩ := Rds.plain HR.out (by omega) (by decide)
            obtain ⟨o, d, hrow, ho, hd, wfo, wfd⟩ := pair_at HI.out hlt
            have c1 : wr.cell? ⟨b0, off + k * 2, none⟩ = some (.int .i64 o) := by
              have := hrd _ _ ho; rw [← this, Nat.mul_comm]; exact World.cell?_of_block (hbel.block _ hb0)
            have c2 : wr.cell? ⟨b0, off + k * 2 + 1, none⟩ = some (.int .i64 d) := by
              have := hrd _ _ hd; rw [← this, Nat.mul_comm]; exact World.cell?_of_block (hbel.block _ hb0)
            have l0 := Nat.lt_of_lt_of_le hb0 hbel.size
            have HB0 := hid hb0
            clear hrd ho hd hb0
            have HBEL := hid hbel
            clear hbel
            go_wp2_with fail
            go_region_held3 (fun w' => w'.cell? ⟨b0, off + k * 2, none⟩ = some (.int .i64 o) ∧ w'.cell? ⟨b0, off + k * 2 + 1, none⟩ = some (.int .i64 d)) (first | exact ⟨c1, c2⟩ | exact s1) (first
              | (go_at_call 19; refine (pstep_any o d _ T.out.p.drew T.out.chk T.out.short.1 T.out.okl (T.out.small H80)).mono ?_; rintro e v1 ⟨rfl, hp, hc⟩; have C1 := hid (((Chg.refl (Fs b lb lv) wr).drew).trans hc (fun _ _ h => h)); have P1 := hid hp; have F1 : Hid (¬ Fs b lb lv b0) := hid (fun hf => by have h1 := T.out.pge _ hf; have h2 := HB0.out; omega); have s1 := And.intro ((C1.out.cell (a := ⟨b0, off + k * 2, none⟩) l0 F1.out).trans c1) ((C1.out.cell (a := ⟨b0, off + k * 2 + 1, none⟩) l0 F1.out).trans c2); have S1 := hid (T.out.stepP C1.out); clear hp hc))
            have l1 := Nat.lt_of_lt_of_le l0 C1.out.size
            have d1 := s1.1
            have d2 := s1.2
            clear s1 c1 c2
            go_wp2_with fail
            go_region_held3 (fun w' => w'.cell? ⟨b0, off + k * 2, none⟩ = some (.int .i64 o) ∧ w'.cell? ⟨b0, off + k * 2 + 1, none⟩ = some (.int .i64 d)) (first | exact ⟨d1, d2⟩ | exact s2) (first
              | (go_at_call 19; refine (pstep_any o d _ S1.out.1.drew T.out.chk T.out.short.2 T.out.okl2 (T.out.small2 H80)).mono ?_; rintro e v2 ⟨rfl, hp, hc⟩; have C2 := hid (((Chg.refl (Fs b2 lb2 lv2) v1).drew).trans hc (fun _ _ h => h)); have P2 := hid hp; have F2 : Hid (¬ Fs b2 lb2 lv2 b0) := hid (fun hf => by have h1 := T.out.qge _ hf; have h2 := HB0.out; omega); have s2 := And.intro ((C2.out.cell (a := ⟨b0, off + k * 2, none⟩) l1 F2.out).trans d1) ((C2.out.cell (a := ⟨b0, off + k * 2 + 1, none⟩) l1 F2.out).trans d2); have T7 := hid (T.out.stepQ S1.out.2 P1.out hp C2.out (pxs_len.trans T.out.len) (okl_push T.out.okl) (pv_bd T.out.chk T.out.okl T.out.vb) (pxs_len.trans T.out.len2) (okl_push T.out.okl2) (pv_bd T.out.chk T.out.okl2 T.out.vb2)); clear hp hc))
            clear s2 d1 d2
            have po := pr_order (ga := x0) (xs := xs) (o := o) (d := d) (chkP_ok T.out.chk).2.2.1 LE.out
            have PO := hid po.1
            have po2 := po.2
            clear po
            go_wp2
            go_roundw
            case rel => exact ⟨k + 1, _, _, _, by omega, by go_num, T7.out, PO.out⟩
            case measure => simp [intOf]; omega
          · obtain rfl : k = x6.length := by omega
            have HBEL := hid hbel
            clear hbel
            have le2 := LE.out
            go_wp2_with (first
              | (go_at_call 21; refine (pval_any _ T.out.p).mono ?_; rintro e w8 ⟨rfl, rfl⟩)
              | (go_at_call 21; refine (pval_any _ T.out.q).mono ?_; rintro e w8 ⟨rfl, rfl⟩)
              | (go_at_call 16; refine (awake_any _).mono ?_; rintro e w9 ⟨rfl, hb⟩))
            go_ret
            exact ⟨rfl, HBEL.out.trans (hb.mono HBEL.out.size)⟩
      · exact absurd he he2
    · have HE := hid he
      by_cases he2 : newErr x0 x1 x2 x3 x5 = 0
      · exact absurd he2 he
      · have HE2 := hid he2
        clear he he2
        go_enter Try.func7, Try.ntmps7
        go_wp2_with fail
        refine (new_bad _ _ _ _ _ _ HE.out).mono ?_
        rintro e w1 ⟨rfl, hb⟩
        have G1 : Hid (Blk w1 (w.heap.size) 23 #[.int .i64 x0, .int .i64 x1, .int .i64 x2]) := hid (Blk.below (Blk.alloc (Blk.at_new _ (by simp)) _) hb (by simp <;> omega))
        have X1 : Hid (Blk w1 (w.heap.size + 1) 48 #[.int .i64 x3, .int .i64 x5, .int .i64 x5]) := hid (Blk.below (Blk.at_new _ (by simp)) hb (by simp <;> omega))
        have B1 : Hid (Below w.heap.size w w1) := hid (Below.trans (((Below.refl _ _).alloc (by simp <;> omega) _).alloc (by simp <;> omega) _) (hb.mono (by simp <;> omega)))
        clear hb
        have cG_0 : ∀ (i : Nat), w1.cell? ⟨w.heap.size, i, none⟩ = (#[.int .i64 x0, .int .i64 x1, .int .i64 x2] : Array Value)[i]? := Blk.cell G1.out
        have cG_1 : ∀ (o0 : Obj) (i : Nat), (w1.alloc o0).cell? ⟨w.heap.size, i, none⟩ = (#[.int .i64 x0, .int .i64 x1, .int .i64 x2] : Array Value)[i]? := fun _ => Blk.cell (Blk.alloc G1.out _)
        have cX_0 : ∀ (i : Nat), w1.cell? ⟨w.heap.size + 1, i, none⟩ = (#[.int .i64 x3, .int .i64 x5, .int .i64 x5] : Array Value)[i]? := Blk.cell X1.out
        have cX_1 : ∀ (o0 : Obj) (i : Nat), (w1.alloc o0).cell? ⟨w.heap.size + 1, i, none⟩ = (#[.int .i64 x3, .int .i64 x5, .int .i64 x5] : Array Value)[i]? := fun _ => Blk.cell (Blk.alloc X1.out _)
        go_wp2_with fail
        refine (new_bad _ _ _ _ _ _ HE2.out).mono ?_
        rintro e w2 ⟨rfl, hb⟩
        have G2 := hid (Blk.below G1.out hb (Blk.lt G1.out))
        have X2 := hid (Blk.below X1.out hb (Blk.lt X1.out))
        have B2 : Hid (Below w.heap.size w w2) := hid (Below.trans B1.out (hb.mono (Nat.le_trans B1.out.size (by simp <;> omega))))
        clear hb
        clear cG_0 cG_1 cX_0 cX_1
        have hz0 : (newErr x0 x1 x2 x3 x5 != 0) = true := by simpa using HE.out
        have hz1 : (newErr x0 x1 x2 x3 x5 != 0) = true := by simpa using HE2.out
        go_wp2_with (go_at_call 16; refine (awake_any _).mono ?_; rintro e w9 ⟨rfl, hb⟩)
        all_goals go_ret
        all_goals exact ⟨rfl, B2.out.trans (hb.mono B2.out.size)⟩
  · by_cases he : newErr x0 x1 x2 x3 x4 = 0
    · have HE := hid he
      by_cases he2 : newErr x0 x1 x2 x3 x5 = 0
      · have HE2 := hid he2
        obtain ⟨NK, N1, N2⟩ := new_ok he
        obtain ⟨NK2, N3, N4⟩ := new_ok he2
        obtain ⟨D, rfl⟩ := Int.eq_ofNat_of_zero_le (chkP_ok NK).2.2.2.2.1
        clear he he2
        go_enter Try.func7, Try.ntmps7
        go_wp2_with fail
        refine (pnew_any _ _ _ _ _ _ HE.out).mono ?_
        rintro e w1 ⟨b, lb, lv, rfl, hp, hpg, hb⟩
        have G1 : Hid (Blk w1 (w.heap.size) 23 #[.int .i64 x0, .int .i64 x1, .int .i64 ((D : Int))]) := hid (Blk.below (Blk.alloc (Blk.at_new _ (by simp)) _) hb (by simp <;> omega))
        have X1 : Hid (Blk w1 (w.heap.size + 1) 48 #[.int .i64 x3, .int .i64 x4, .int .i64 x5]) := hid (Blk.below (Blk.at_new _ (by simp)) hb (by simp <;> omega))
        have B1 : Hid (Below w.heap.size w w1) := hid (Below.trans (((Below.refl _ _).alloc (by simp <;> omega) _).alloc (by simp <;> omega) _) (hb.mono (by simp <;> omega)))
        clear hb
        have cG_0 : ∀ (i : Nat), w1.cell? ⟨w.heap.size, i, none⟩ = (#[.int .i64 x0, .int .i64 x1, .int .i64 ((D : Int))] : Array Value)[i]? := Blk.cell G1.out
        have cG_1 : ∀ (o0 : Obj) (i : Nat), (w1.alloc o0).cell? ⟨w.heap.size, i, none⟩ = (#[.int .i64 x0, .int .i64 x1, .int .i64 ((D : Int))] : Array Value)[i]? := fun _ => Blk.cell (Blk.alloc G1.out _)
        have cX_0 : ∀ (i : Nat), w1.cell? ⟨w.heap.size + 1, i, none⟩ = (#[.int .i64 x3, .int .i64 x4, .int .i64 x5] : Array Value)[i]? := Blk.cell X1.out
        have cX_1 : ∀ (o0 : Obj) (i : Nat), (w1.alloc o0).cell? ⟨w.heap.size + 1, i, none⟩ = (#[.int .i64 x3, .int .i64 x4, .int .i64 x5] : Array Value)[i]? := fun _ => Blk.cell (Blk.alloc X1.out _)
        have HP := hid hp
        have HPG := hid hpg
        clear hp hpg
        go_wp2_with fail
        refine (pnew_any _ _ _ _ _ _ HE2.out).mono ?_
        rintro e w2 ⟨b2, lb2, lv2, rfl, hq, hqg, hb⟩
        have G2 := hid (Blk.below G1.out hb (Blk.lt G1.out))
        have X2 := hid (Blk.below X1.out hb (Blk.lt X1.out))
        have B2 : Hid (Below w.heap.size w w2) := hid (Below.trans B1.out (hb.mono (Nat.le_trans B1.out.size (by simp <;> omega))))
        have T2 : Hid (Pair w w2 0 b lb b2 lb2 lv lv2 x0 x1 x4 x5 D (List.replicate (D : Int).toNat x3) (List.replicate (D : Int).toNat x3)) := hid ⟨HP.out.below hb, hq, NK, by simp, by simp, okl_rep N1, okl_rep N1, by have := absB_true N2; omega, by have := absB_true N4; omega, fun j hj => Nat.le_trans (by simp; omega) (HPG.out j hj), fun j hj => Nat.le_trans B1.out.size (hqg j hj), fun j hj hf => by have h1 := HP.out.lt j hj; have h2 := hqg j hf; omega, B2.out⟩
        clear hb hq hqg
        go_wp2
        go_loopw [11] (fun i wr => ∃ (k : Nat) (v v2 : Int) (xs : List Int), k ≤ x6.length ∧ i = .int .i64 k ∧ Pair w wr k b lb b2 lb2 lv lv2 x0 x1 v v2 D xs xs ∧ v ≤ v2) (fun i _ => x6.length - (intOf i).toNat)
        case atStart => exact ⟨0, _, _, _, Nat.zero_le _, rfl, T2.out, by omega⟩
        case round =>
          obtain ⟨k, v, v2, xs, hk, rfl, hT, hle⟩ := hrel
          have T := hid hT
          have LE := hid hle
          have hbel := hT.bel
          clear hT hle
          by_cases hlt : k < x6.length
          · have H80 : k ≤ 600 := by omega
            obtain ⟨b0, off, rfl, hb0, _, hrd⟩ := Rds.plain HR.out (by omega) (by decide)
            obtain ⟨o, d, hrow, ho, hd, wfo, wfd⟩ := pair_at HI.out hlt
            have c1 : wr.cell? ⟨b0, off + k * 2, none⟩ = some (.int .i64 o) := by
              have := hrd _ _ ho; rw [← this, Nat.mul_comm]; exact World.cell?_of_block (hbel.block _ hb0)
            have c2 : wr.cell? ⟨b0, off + k * 2 + 1, none⟩ = some (.int .i64 d) := by
              have := hrd _ _ hd; rw [← this, Nat.mul_comm]; exact World.cell?_of_block (hbel.block _ hb0)
            have l0 := Nat.lt_of_lt_of_le hb0 hbel.size
            have HB0 := hid hb0
            clear hrd ho hd hb0
            have HBEL := hid hbel
            clear hbel
            go_wp2_with fail
            go_region_held3 (fun w' => w'.cell? ⟨b0, off + k * 2, none⟩ = some (.int .i64 o) ∧ w'.cell? ⟨b0, off + k * 2 + 1, none⟩ = some (.int .i64 d)) (first | exact ⟨c1, c2⟩ | exact s1) (first
              | (go_at_call 19; refine (pstep_any o d _ T.out.p.drew T.out.chk T.out.short.1 T.out.okl (T.out.small H80)).mono ?_; rintro e v1 ⟨rfl, hp, hc⟩; have C1 := hid (((Chg.refl (Fs b lb lv) wr).drew).trans hc (fun _ _ h => h)); have P1 := hid hp; have F1 : Hid (¬ Fs b lb lv b0) := hid (fun hf => by have h1 := T.out.pge _ hf; have h2 := HB0.out; omega); have s1 := And.intro ((C1.out.cell (a := ⟨b0, off + k * 2, none⟩) l0 F1.out).trans c1) ((C1.out.cell (a := ⟨b0, off + k * 2 + 1, none⟩) l0 F1.out).trans c2); have S1 := hid (T.out.stepP C1.out); clear hp hc))
            have l1 := Nat.lt_of_lt_of_le l0 C1.out.size
            have d1 := s1.1
            have d2 := s1.2
            clear s1 c1 c2
            go_wp2_with fail
            go_region_held3 (fun w' => w'.cell? ⟨b0, off + k * 2, none⟩ = some (.int .i64 o) ∧ w'.cell? ⟨b0, off + k * 2 + 1, none⟩ = some (.int .i64 d)) (first | exact ⟨d1, d2⟩ | exact s2) (first
              | (go_at_call 19; refine (pstep_any o d _ S1.out.1.drew T.out.chk T.out.short.2 T.out.okl2 (T.out.small2 H80)).mono ?_; rintro e v2 ⟨rfl, hp, hc⟩; have C2 := hid (((Chg.refl (Fs b2 lb2 lv2) v1).drew).trans hc (fun _ _ h => h)); have P2 := hid hp; have F2 : Hid (¬ Fs b2 lb2 lv2 b0) := hid (fun hf => by have h1 := T.out.qge _ hf; have h2 := HB0.out; omega); have s2 := And.intro ((C2.out.cell (a := ⟨b0, off + k * 2, none⟩) l1 F2.out).trans d1) ((C2.out.cell (a := ⟨b0, off + k * 2 + 1, none⟩) l1 F2.out).trans d2); have T7 := hid (T.out.stepQ S1.out.2 P1.out hp C2.out (pxs_len.trans T.out.len) (okl_push T.out.okl) (pv_bd T.out.chk T.out.okl T.out.vb) (pxs_len.trans T.out.len2) (okl_push T.out.okl2) (pv_bd T.out.chk T.out.okl2 T.out.vb2)); clear hp hc))
            clear s2 d1 d2
            have po := pr_order (ga := x0) (xs := xs) (o := o) (d := d) (chkP_ok T.out.chk).2.2.1 LE.out
            have PO := hid po.1
            have po2 := po.2
            clear po
            go_wp2
            go_roundw
            case rel => exact ⟨k + 1, _, _, _, by omega, by go_num, T7.out, PO.out⟩
            case measure => simp [intOf]; omega
          · obtain rfl : k = x6.length := by omega
            have HBEL := hid hbel
            clear hbel
            have le2 := LE.out
            go_wp2_with (first
              | (go_at_call 21; refine (pval_any _ T.out.p).mono ?_; rintro e w8 ⟨rfl, rfl⟩)
              | (go_at_call 21; refine (pval_any _ T.out.q).mono ?_; rintro e w8 ⟨rfl, rfl⟩)
              | (go_at_call 16; refine (awake_any _).mono ?_; rintro e w9 ⟨rfl, hb⟩))
            go_ret
            exact ⟨rfl, HBEL.out.trans (hb.mono HBEL.out.size)⟩
      · have HE2 := hid he2
        clear he he2
        go_enter Try.func7, Try.ntmps7
        go_wp2_with fail
        refine (pnew_any _ _ _ _ _ _ HE.out).mono ?_
        rintro e w1 ⟨b, lb, lv, rfl, hp, hpg, hb⟩
        have G1 : Hid (Blk w1 (w.heap.size) 23 #[.int .i64 x0, .int .i64 x1, .int .i64 x2]) := hid (Blk.below (Blk.alloc (Blk.at_new _ (by simp)) _) hb (by simp <;> omega))
        have X1 : Hid (Blk w1 (w.heap.size + 1) 48 #[.int .i64 x3, .int .i64 x4, .int .i64 x5]) := hid (Blk.below (Blk.at_new _ (by simp)) hb (by simp <;> omega))
        have B1 : Hid (Below w.heap.size w w1) := hid (Below.trans (((Below.refl _ _).alloc (by simp <;> omega) _).alloc (by simp <;> omega) _) (hb.mono (by simp <;> omega)))
        clear hb
        have cG_0 : ∀ (i : Nat), w1.cell? ⟨w.heap.size, i, none⟩ = (#[.int .i64 x0, .int .i64 x1, .int .i64 x2] : Array Value)[i]? := Blk.cell G1.out
        have cG_1 : ∀ (o0 : Obj) (i : Nat), (w1.alloc o0).cell? ⟨w.heap.size, i, none⟩ = (#[.int .i64 x0, .int .i64 x1, .int .i64 x2] : Array Value)[i]? := fun _ => Blk.cell (Blk.alloc G1.out _)
        have cX_0 : ∀ (i : Nat), w1.cell? ⟨w.heap.size + 1, i, none⟩ = (#[.int .i64 x3, .int .i64 x4, .int .i64 x5] : Array Value)[i]? := Blk.cell X1.out
        have cX_1 : ∀ (o0 : Obj) (i : Nat), (w1.alloc o0).cell? ⟨w.heap.size + 1, i, none⟩ = (#[.int .i64 x3, .int .i64 x4, .int .i64 x5] : Array Value)[i]? := fun _ => Blk.cell (Blk.alloc X1.out _)
        have HP := hid hp
        have HPG := hid hpg
        clear hp hpg
        go_wp2_with fail
        refine (new_bad _ _ _ _ _ _ HE2.out).mono ?_
        rintro e w2 ⟨rfl, hb⟩
        have G2 := hid (Blk.below G1.out hb (Blk.lt G1.out))
        have X2 := hid (Blk.below X1.out hb (Blk.lt X1.out))
        have B2 : Hid (Below w.heap.size w w2) := hid (Below.trans B1.out (hb.mono (Nat.le_trans B1.out.size (by simp <;> omega))))
        clear hb
        clear cG_0 cG_1 cX_0 cX_1
        have hz1 : (newErr x0 x1 x2 x3 x5 != 0) = true := by simpa using HE2.out
        go_wp2_with (go_at_call 16; refine (awake_any _).mono ?_; rintro e w9 ⟨rfl, hb⟩)
        all_goals go_ret
        all_goals exact ⟨rfl, B2.out.trans (hb.mono B2.out.size)⟩
    · have HE := hid he
      by_cases he2 : newErr x0 x1 x2 x3 x5 = 0
      · have HE2 := hid he2
        clear he he2
        go_enter Try.func7, Try.ntmps7
        go_wp2_with fail
        refine (new_bad _ _ _ _ _ _ HE.out).mono ?_
        rintro e w1 ⟨rfl, hb⟩
        have G1 : Hid (Blk w1 (w.heap.size) 23 #[.int .i64 x0, .int .i64 x1, .int .i64 x2]) := hid (Blk.below (Blk.alloc (Blk.at_new _ (by simp)) _) hb (by simp <;> omega))
        have X1 : Hid (Blk w1 (w.heap.size + 1) 48 #[.int .i64 x3, .int .i64 x4, .int .i64 x5]) := hid (Blk.below (Blk.at_new _ (by simp)) hb (by simp <;> omega))
        have B1 : Hid (Below w.heap.size w w1) := hid (Below.trans (((Below.refl _ _).alloc (by simp <;> omega) _).alloc (by simp <;> omega) _) (hb.mono (by simp <;> omega)))
        clear hb
        have cG_0 : ∀ (i : Nat), w1.cell? ⟨w.heap.size, i, none⟩ = (#[.int .i64 x0, .int .i64 x1, .int .i64 x2] : Array Value)[i]? := Blk.cell G1.out
        have cG_1 : ∀ (o0 : Obj) (i : Nat), (w1.alloc o0).cell? ⟨w.heap.size, i, none⟩ = (#[.int .i64 x0, .int .i64 x1, .int .i64 x2] : Array Value)[i]? := fun _ => Blk.cell (Blk.alloc G1.out _)
        have cX_0 : ∀ (i : Nat), w1.cell? ⟨w.heap.size + 1, i, none⟩ = (#[.int .i64 x3, .int .i64 x4, .int .i64 x5] : Array Value)[i]? := Blk.cell X1.out
        have cX_1 : ∀ (o0 : Obj) (i : Nat), (w1.alloc o0).cell? ⟨w.heap.size + 1, i, none⟩ = (#[.int .i64 x3, .int .i64 x4, .int .i64 x5] : Array Value)[i]? := fun _ => Blk.cell (Blk.alloc X1.out _)
        go_wp2_with fail
        refine (pnew_any _ _ _ _ _ _ HE2.out).mono ?_
        rintro e w2 ⟨b2, lb2, lv2, rfl, hq, hqg, hb⟩
        have G2 := hid (Blk.below G1.out hb (Blk.lt G1.out))
        have X2 := hid (Blk.below X1.out hb (Blk.lt X1.out))
        have B2 : Hid (Below w.heap.size w w2) := hid (Below.trans B1.out (hb.mono (Nat.le_trans B1.out.size (by simp <;> omega))))
        clear hb
        clear cG_0 cG_1 cX_0 cX_1
        have hz0 : (newErr x0 x1 x2 x3 x4 != 0) = true := by simpa using HE.out
        go_wp2_with (go_at_call 16; refine (awake_any _).mono ?_; rintro e w9 ⟨rfl, hb⟩)
        all_goals go_ret
        all_goals exact ⟨rfl, B2.out.trans (hb.mono B2.out.size)⟩
      · have HE2 := hid he2
        clear he he2
        go_enter Try.func7, Try.ntmps7
        go_wp2_with fail
        refine (new_bad _ _ _ _ _ _ HE.out).mono ?_
        rintro e w1 ⟨rfl, hb⟩
        have G1 : Hid (Blk w1 (w.heap.size) 23 #[.int .i64 x0, .int .i64 x1, .int .i64 x2]) := hid (Blk.below (Blk.alloc (Blk.at_new _ (by simp)) _) hb (by simp <;> omega))
        have X1 : Hid (Blk w1 (w.heap.size + 1) 48 #[.int .i64 x3, .int .i64 x4, .int .i64 x5]) := hid (Blk.below (Blk.at_new _ (by simp)) hb (by simp <;> omega))
        have B1 : Hid (Below w.heap.size w w1) := hid (Below.trans (((Below.refl _ _).alloc (by simp <;> omega) _).alloc (by simp <;> omega) _) (hb.mono (by simp <;> omega)))
        clear hb
        have cG_0 : ∀ (i : Nat), w1.cell? ⟨w.heap.size, i, none⟩ = (#[.int .i64 x0, .int .i64 x1, .int .i64 x2] : Array Value)[i]? := Blk.cell G1.out
        have cG_1 : ∀ (o0 : Obj) (i : Nat), (w1.alloc o0).cell? ⟨w.heap.size, i, none⟩ = (#[.int .i64 x0, .int .i64 x1, .int .i64 x2] : Array Value)[i]? := fun _ => Blk.cell (Blk.alloc G1.out _)
        have cX_0 : ∀ (i : Nat), w1.cell? ⟨w.heap.size + 1, i, none⟩ = (#[.int .i64 x3, .int .i64 x4, .int .i64 x5] : Array Value)[i]? := Blk.cell X1.out
        have cX_1 : ∀ (o0 : Obj) (i : Nat), (w1.alloc o0).cell? ⟨w.heap.size + 1, i, none⟩ = (#[.int .i64 x3, .int .i64 x4, .int .i64 x5] : Array Value)[i]? := fun _ => Blk.cell (Blk.alloc X1.out _)
        go_wp2_with fail
        refine (new_bad _ _ _ _ _ _ HE2.out).mono ?_
        rintro e w2 ⟨rfl, hb⟩
        have G2 := hid (Blk.below G1.out hb (Blk.lt G1.out))
        have X2 := hid (Blk.below X1.out hb (Blk.lt X1.out))
        have B2 : Hid (Below w.heap.size w w2) := hid (Below.trans B1.out (hb.mono (Nat.le_trans B1.out.size (by simp <;> omega))))
        clear hb
        clear cG_0 cG_1 cX_0 cX_1
        have hz0 : (newErr x0 x1 x2 x3 x4 != 0) = true := by simpa using HE.out
        have hz1 : (newErr x0 x1 x2 x3 x5 != 0) = true := by simpa using HE2.out
        go_wp2_with (go_at_call 16; refine (awake_any _).mono ?_; rintro e w9 ⟨rfl, hb⟩)
        all_goals go_ret
        all_goals exact ⟨rfl, B2.out.trans (hb.mono B2.out.size)⟩
end Go.Proofs.Ytiphcdjfmihliaa
