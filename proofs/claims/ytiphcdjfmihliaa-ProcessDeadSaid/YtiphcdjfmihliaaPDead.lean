/- ProcessDead. -/
import Derived.Test.YtiphcdjfmihliaaPair
import Derived.Deep.DeepCutAuto
namespace Go.Proofs.Ytiphcdjfmihliaa
open Go.RowKit

theorem dead_step {ga la v o p d : Int} {xs ys : List Int} {r : Nat} (h : Agree (r + 1) xs ys) (ho : xs.length < r + 1 → o = p) (he : pErr p d = pErr o d) :
    pV ga la v ys p d = pV ga la v xs o d ∧ pR ga la v ys p d = pR ga la v xs o d ∧ Agree r (pXs xs o d) (pXs ys p d) := by
  have h1 := agree_out h ho
  have h2 := agree_push h ho
  unfold pR pV pXs
  rw [he, h1]
  refine ⟨rfl, rfl, ?_⟩
  split
  · exact h2
  · exact agree_less h
set_option maxRecDepth 100000 in
set_option maxHeartbeats 8000000 in
theorem processDead_walk (x0 : Int) (x1 : Int) (x2 : Int) (x3 : Int) (x4 : Int) (a5 : Option Addr) (c5 : Nat) (x5 : List (List Int)) (w : World) (_h0 : (Lit.int .i64 x0).wf = true) (_h1 : (Lit.int .i64 x1).wf = true) (_h2 : (Lit.int .i64 x2).wf = true) (_h3 : (Lit.int .i64 x3).wf = true) (_h4 : (Lit.int .i64 x4).wf = true) (h5 : Rds Nn w 3 a5 x5.length (ints x5.flatten)) (g5 : x5.length ≤ c5 ∧ c5 ≤ maxLen ∧ (a5 = none → x5.length = 0 ∧ c5 = 0)) (i5 : ∀ r ∈ x5, r.length = 3 ∧ ∀ n ∈ r, (Lit.int .i64 n).wf = true) :
    Calls Try.prog 8 #[.agg #[.int .i64 x0, .int .i64 x1, .int .i64 x2], .agg #[.int .i64 x3, .int .i64 x4], .slice a5 x5.length c5] w fun e w' => e = .returned (.bool true) ∧ Below w.heap.size w w' := by
  have HR := hid h5
  have HI := hid i5
  obtain ⟨g1, g2, g3⟩ := g5
  have HN := hid g3
  clear h5 i5 g3
  by_cases hl : 80 < x5.length
  · go_enter Try.func8, Try.ntmps8
    go_wp2_with fail
    refine (awake_any _).mono ?_
    rintro e w1 ⟨rfl, hb⟩
    have HB : Hid (Below w.heap.size w w1) := hid ((((Below.refl _ _).alloc (by simp <;> omega) _).alloc (by simp <;> omega) _).trans (hb.mono (by simp <;> omega)))
    clear hb
    go_wp2
    go_ret
    exact ⟨rfl, HB.out⟩
  by_cases he : newErr x0 x1 x2 x3 x4 = 0
  · have HE := hid he
    obtain ⟨NK, N1, N2⟩ := new_ok he
    obtain ⟨D, rfl⟩ := Int.eq_ofNat_of_zero_le (chkP_ok NK).2.2.2.2.1
    clear he
    go_enter Try.func8, Try.ntmps8
    go_wp2_with fail
    refine (pnew_any _ _ _ _ _ _ HE.out).mono ?_
    rintro e w1 ⟨b, lb, lv, rfl, hp, hpg, hb⟩
    have G1 : Hid (Blk w1 (w.heap.size) 23 #[.int .i64 x0, .int .i64 x1, .int .i64 ((D : Int))]) := hid (Blk.below (Blk.alloc (Blk.at_new _ (by simp)) _) hb (by simp <;> omega))
    have X1 : Hid (Blk w1 (w.heap.size + 1) 30 #[.int .i64 x3, .int .i64 x4]) := hid (Blk.below (Blk.at_new _ (by simp)) hb (by simp <;> omega))
    have B1 : Hid (Below w.heap.size w w1) := hid (Below.trans (((Below.refl _ _).alloc (by simp <;> omega) _).alloc (by simp <;> omega) _) (hb.mono (by simp <;> omega)))
    clear hb
    have cG_0 : ∀ (i : Nat), w1.cell? ⟨w.heap.size, i, none⟩ = (#[.int .i64 x0, .int .i64 x1, .int .i64 ((D : Int))] : Array Value)[i]? := Blk.cell G1.out
    have cG_1 : ∀ (o0 : Obj) (i : Nat), (w1.alloc o0).cell? ⟨w.heap.size, i, none⟩ = (#[.int .i64 x0, .int .i64 x1, .int .i64 ((D : Int))] : Array Value)[i]? := fun _ => Blk.cell (Blk.alloc G1.out _)
    have cX_0 : ∀ (i : Nat), w1.cell? ⟨w.heap.size + 1, i, none⟩ = (#[.int .i64 x3, .int .i64 x4] : Array Value)[i]? := Blk.cell X1.out
    have cX_1 : ∀ (o0 : Obj) (i : Nat), (w1.alloc o0).cell? ⟨w.heap.size + 1, i, none⟩ = (#[.int .i64 x3, .int .i64 x4] : Array Value)[i]? := fun _ => Blk.cell (Blk.alloc X1.out _)
    have HP := hid hp
    have HPG := hid hpg
    clear hp hpg
    go_wp2_with fail
    refine (pnew_any _ _ _ _ _ _ HE.out).mono ?_
    rintro e w2 ⟨b2, lb2, lv2, rfl, hq, hqg, hb⟩
    have G2 := hid (Blk.below G1.out hb (Blk.lt G1.out))
    have X2 := hid (Blk.below X1.out hb (Blk.lt X1.out))
    have B2 : Hid (Below w.heap.size w w2) := hid (Below.trans B1.out (hb.mono (Nat.le_trans B1.out.size (by simp <;> omega))))
    have T2 : Hid (Pair w w2 0 b lb b2 lb2 lv lv2 x0 x1 x4 x4 D (List.replicate (D : Int).toNat x3) (List.replicate (D : Int).toNat x3)) := hid ⟨HP.out.below hb, hq, NK, by simp, by simp, okl_rep N1, okl_rep N1, by have := absB_true N2; omega, by have := absB_true N2; omega, fun j hj => Nat.le_trans (by simp; omega) (HPG.out j hj), fun j hj => Nat.le_trans B1.out.size (hqg j hj), fun j hj hf => by have h1 := HP.out.lt j hj; have h2 := hqg j hf; omega, B2.out⟩
    have NG1 : Hid (¬ Fs b lb lv w.heap.size) := hid (fun hf => by have := HPG.out _ hf; simp at this; omega)
    have NG2 : Hid (¬ Fs b2 lb2 lv2 w.heap.size) := hid (fun hf => by have h1 := hqg _ hf; have h2 := G1.out.lt; omega)
    clear hb hq hqg
    go_wp2
    go_loopw [11] (fun i wr => ∃ (k : Nat) (v : Int) (xs ys : List Int), k ≤ x5.length ∧ i = .int .i64 k ∧ Pair w wr k b lb b2 lb2 lv lv2 x0 x1 v v D xs ys ∧ Agree (x5.length - k) xs ys ∧ Blk wr w.heap.size 23 #[.int .i64 x0, .int .i64 x1, .int .i64 ((D : Int))]) (fun i _ => x5.length - (intOf i).toNat)
    case atStart => exact ⟨0, _, _, _, Nat.zero_le _, rfl, T2.out, ⟨rfl, fun _ _ => rfl⟩, G2.out⟩
    case round =>
      obtain ⟨k, v, xs, ys, hk, rfl, hT, hag, hG⟩ := hrel
      have T := hid hT
      have AG := hid hag
      have G := hid hG
      have cG := hG.cell
      have hbel := hT.bel
      have D32 := (chkP_ok T.out.chk).2.2.2.2.2
      clear hT hag hG
      by_cases hlt : k < x5.length
      · have H80 : k ≤ 600 := by omega
        obtain ⟨b0, off, rfl, hb0, _, hrd⟩ := Rds.plain HR.out (by omega) (by decide)
        obtain ⟨o, d, u, hrow, ho, hd, hu, wfo, wfd, wfu⟩ := triple_at HI.out hlt
        have c1 : wr.cell? ⟨b0, off + k * 3, none⟩ = some (.int .i64 o) := by
          have := hrd _ _ ho; rw [← this, Nat.mul_comm]; exact World.cell?_of_block (hbel.block _ hb0)
        have c2 : wr.cell? ⟨b0, off + k * 3 + 1, none⟩ = some (.int .i64 d) := by
          have := hrd _ _ hd; rw [← this, Nat.mul_comm]; exact World.cell?_of_block (hbel.block _ hb0)
        have c3 : wr.cell? ⟨b0, off + k * 3 + 2, none⟩ = some (.int .i64 u) := by
          have := hrd _ _ hu; rw [← this, Nat.mul_comm]; exact World.cell?_of_block (hbel.block _ hb0)
        have l0 := Nat.lt_of_lt_of_le hb0 hbel.size
        have HB0 := hid hb0
        clear hrd ho hd hu hb0
        have HBEL := hid hbel
        clear hbel
        by_cases hr : -16777216 ≤ o ∧ o ≤ 16777216 ∧ -16777216 ≤ u ∧ u ≤ 16777216
        · obtain ⟨r1, r2, r3, r4⟩ := hr
          by_cases hk2 : (x5.length : Int) - (D : Int) ≤ (k : Int)
          · have PE : Hid (pErr u d = pErr o d) := hid (by unfold pErr; rw [absB_mk (n := o) (m := 16777216) (by omega) (by omega), absB_mk (n := u) (m := 16777216) (by omega) (by omega)])
            have OO : Hid (xs.length < x5.length - (k + 1) + 1 → o = u) := hid (fun hh => by have := T.out.len; omega)
            have SUB : Hid (x5.length - k = x5.length - (k + 1) + 1) := hid (by omega)
            go_wp2_with fail
            go_region_held3 (fun w' => w'.cell? ⟨b0, off + k * 3, none⟩ = some (.int .i64 o) ∧ w'.cell? ⟨b0, off + k * 3 + 1, none⟩ = some (.int .i64 d) ∧ w'.cell? ⟨b0, off + k * 3 + 2, none⟩ = some (.int .i64 u)) (first | exact ⟨c1, c2, c3⟩ | exact s1) (first
              | (go_at_call 19; refine (pstep_any o d _ T.out.p.drew T.out.chk T.out.short.1 T.out.okl (T.out.small H80)).mono ?_; rintro e v1 ⟨rfl, hp, hc⟩; have C1 := hid (((Chg.refl (Fs b lb lv) wr).drew).trans hc (fun _ _ h => h)); have P1 := hid hp; have F1 : Hid (¬ Fs b lb lv b0) := hid (fun hf => by have h1 := T.out.pge _ hf; have h2 := HB0.out; omega); have s1 := And.intro ((C1.out.cell (a := ⟨b0, off + k * 3, none⟩) l0 F1.out).trans c1) (And.intro ((C1.out.cell (a := ⟨b0, off + k * 3 + 1, none⟩) l0 F1.out).trans c2) ((C1.out.cell (a := ⟨b0, off + k * 3 + 2, none⟩) l0 F1.out).trans c3)); have S1 := hid (T.out.stepP C1.out); clear hp hc))
            have GG := hid (G.out.keep C1.out NG1.out)
            have l1 := Nat.lt_of_lt_of_le l0 C1.out.size
            have d2 := s1.2.1
            clear s1 c1 c2 c3 cG
            go_wp2_with fail
            refine (pstep_any u d _ S1.out.1 T.out.chk T.out.short.2 T.out.okl2 (T.out.small2 H80)).mono ?_
            rintro e v2 ⟨rfl, hp, hc⟩
            have T7 := hid (T.out.stepQ S1.out.2 P1.out hp hc (pxs_len.trans T.out.len) (okl_push T.out.okl) (pv_bd T.out.chk T.out.okl T.out.vb) (pxs_len.trans T.out.len2) (okl_push T.out.okl2) (pv_bd T.out.chk T.out.okl2 T.out.vb2))
            have G7 := hid (GG.out.keep hc NG2.out)
            clear hp hc d2
            have dd := dead_step (ga := x0) (la := x1) (v := v) (d := d) (o := o) (p := u) (SUB.out ▸ AG.out) OO.out PE.out
            rw [dd.1] at T7
            have AN := hid dd.2.2
            have PR := dd.2.1
            rw [PR, PE.out]
            clear dd PR
            go_wp2
            go_roundw
            case rel => exact ⟨k + 1, _, _, _, by omega, by go_num, T7.out, AN.out, G7.out⟩
            case measure => simp [intOf]; omega
          · have SUB : Hid (x5.length - k = x5.length - (k + 1) + 1) := hid (by omega)
            go_wp2_with fail
            go_region_held3 (fun w' => w'.cell? ⟨b0, off + k * 3, none⟩ = some (.int .i64 o) ∧ w'.cell? ⟨b0, off + k * 3 + 1, none⟩ = some (.int .i64 d) ∧ w'.cell? ⟨b0, off + k * 3 + 2, none⟩ = some (.int .i64 u)) (first | exact ⟨c1, c2, c3⟩ | exact s1) (first
              | (go_at_call 19; refine (pstep_any o d _ T.out.p.drew T.out.chk T.out.short.1 T.out.okl (T.out.small H80)).mono ?_; rintro e v1 ⟨rfl, hp, hc⟩; have C1 := hid (((Chg.refl (Fs b lb lv) wr).drew).trans hc (fun _ _ h => h)); have P1 := hid hp; have F1 : Hid (¬ Fs b lb lv b0) := hid (fun hf => by have h1 := T.out.pge _ hf; have h2 := HB0.out; omega); have s1 := And.intro ((C1.out.cell (a := ⟨b0, off + k * 3, none⟩) l0 F1.out).trans c1) (And.intro ((C1.out.cell (a := ⟨b0, off + k * 3 + 1, none⟩) l0 F1.out).trans c2) ((C1.out.cell (a := ⟨b0, off + k * 3 + 2, none⟩) l0 F1.out).trans c3)); have S1 := hid (T.out.stepP C1.out); clear hp hc))
            have GG := hid (G.out.keep C1.out NG1.out)
            have l1 := Nat.lt_of_lt_of_le l0 C1.out.size
            have d2 := s1.2.1
            clear s1 c1 c2 c3 cG
            go_wp2_with fail
            refine (pstep_any o d _ S1.out.1 T.out.chk T.out.short.2 T.out.okl2 (T.out.small2 H80)).mono ?_
            rintro e v2 ⟨rfl, hp, hc⟩
            have T7 := hid (T.out.stepQ S1.out.2 P1.out hp hc (pxs_len.trans T.out.len) (okl_push T.out.okl) (pv_bd T.out.chk T.out.okl T.out.vb) (pxs_len.trans T.out.len2) (okl_push T.out.okl2) (pv_bd T.out.chk T.out.okl2 T.out.vb2))
            have G7 := hid (GG.out.keep hc NG2.out)
            clear hp hc d2
            have dd := dead_step (ga := x0) (la := x1) (v := v) (d := d) (o := o) (p := o) (SUB.out ▸ AG.out) (fun _ => rfl) rfl
            rw [dd.1] at T7
            have AN := hid dd.2.2
            have PR := dd.2.1
            rw [PR]
            clear dd PR
            go_wp2
            go_roundw
            case rel => exact ⟨k + 1, _, _, _, by omega, by go_num, T7.out, AN.out, G7.out⟩
            case measure => simp [intOf]; omega
        · have HR2 := hid hr
          clear hr
          go_wp2_with (go_at_call 16; refine (awake_any _).mono ?_; rintro e w9 ⟨rfl, hb⟩)
          all_goals first
            | (exfalso; have := HR2.out; omega)
            | (go_ret; exact ⟨rfl, HBEL.out.trans (hb.mono HBEL.out.size)⟩)
      · obtain rfl : k = x5.length := by omega
        have HBEL := hid hbel
        clear hbel
        go_wp2_with (go_at_call 16; refine (awake_any _).mono ?_; rintro e w9 ⟨rfl, hb⟩)
        go_ret
        exact ⟨rfl, HBEL.out.trans (hb.mono HBEL.out.size)⟩
  · have HE := hid he
    go_enter Try.func8, Try.ntmps8
    go_wp2_with fail
    refine (new_bad _ _ _ _ _ _ HE.out).mono ?_
    rintro e w1 ⟨rfl, hb⟩
    have G1 : Hid (Blk w1 (w.heap.size) 23 #[.int .i64 x0, .int .i64 x1, .int .i64 x2]) := hid (Blk.below (Blk.alloc (Blk.at_new _ (by simp)) _) hb (by simp <;> omega))
    have X1 : Hid (Blk w1 (w.heap.size + 1) 30 #[.int .i64 x3, .int .i64 x4]) := hid (Blk.below (Blk.at_new _ (by simp)) hb (by simp <;> omega))
    have B1 : Hid (Below w.heap.size w w1) := hid (Below.trans (((Below.refl _ _).alloc (by simp <;> omega) _).alloc (by simp <;> omega) _) (hb.mono (by simp <;> omega)))
    clear hb
    have cG_0 : ∀ (i : Nat), w1.cell? ⟨w.heap.size, i, none⟩ = (#[.int .i64 x0, .int .i64 x1, .int .i64 x2] : Array Value)[i]? := Blk.cell G1.out
    have cG_1 : ∀ (o0 : Obj) (i : Nat), (w1.alloc o0).cell? ⟨w.heap.size, i, none⟩ = (#[.int .i64 x0, .int .i64 x1, .int .i64 x2] : Array Value)[i]? := fun _ => Blk.cell (Blk.alloc G1.out _)
    have cX_0 : ∀ (i : Nat), w1.cell? ⟨w.heap.size + 1, i, none⟩ = (#[.int .i64 x3, .int .i64 x4] : Array Value)[i]? := Blk.cell X1.out
    have cX_1 : ∀ (o0 : Obj) (i : Nat), (w1.alloc o0).cell? ⟨w.heap.size + 1, i, none⟩ = (#[.int .i64 x3, .int .i64 x4] : Array Value)[i]? := fun _ => Blk.cell (Blk.alloc X1.out _)
    go_wp2_with fail
    refine (new_bad _ _ _ _ _ _ HE.out).mono ?_
    rintro e w2 ⟨rfl, hb⟩
    have G2 := hid (Blk.below G1.out hb (Blk.lt G1.out))
    have X2 := hid (Blk.below X1.out hb (Blk.lt X1.out))
    have B2 : Hid (Below w.heap.size w w2) := hid (Below.trans B1.out (hb.mono (Nat.le_trans B1.out.size (by simp <;> omega))))
    clear hb
    clear cG_0 cG_1 cX_0 cX_1
    have hz : (newErr x0 x1 x2 x3 x4 != 0) = true := by simpa using HE.out
    go_wp2_with (go_at_call 16; refine (awake_any _).mono ?_; rintro e w9 ⟨rfl, hb⟩)
    all_goals go_ret
    all_goals exact ⟨rfl, B2.out.trans (hb.mono B2.out.size)⟩
end Go.Proofs.Ytiphcdjfmihliaa
