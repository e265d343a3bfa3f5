/- Chapter 38: what the closure that lists the patterns does. -/
import Derived.Test.YtccgbojcghbdcaaSPn3
namespace Go.Proofs.Ytccgbojcghbdcaa
open Go.RowKit

def CPost (q : Env) (cs : List Int) (L : List (List Int)) : Ending → World → Prop := fun e w' => e = .returned (.tuple #[]) ∧ ∃ v', CI q v' cs L w'
/-- A block of numbers, as a row. -/
theorem arr_rds {w : World} {b n : Nat} {l : List Int} {t : TypeId} (h : Blk w b t (ints l).toArray) (hn : n = l.length := by rfl) : Rds Nn w 1 (some ⟨b, 0, none⟩) n (ints l) := by
  subst hn
  refine ⟨by simp [ints], fun _ => ⟨_, rfl, h.lt, id, fun j u hu => ?_⟩⟩
  rw [add_at, Nat.zero_add, h.cell]
  simpa using hu
theorem zs_at {q : Env} (hq : q.Ok) {k : Nat} (hk : k < q.n) : ∃ p o z, q.a = some ⟨p, o, none⟩ ∧ q.zs[k]? = some z ∧ q.zs.drop k = z :: q.zs.drop (k + 1) ∧ (1 ≤ z ∧ z ≤ 12000) ∧ (∀ y ∈ q.zs.drop (k + 1), 1 ≤ y ∧ y ≤ z) ∧ ∀ W, Below q.w0.heap.size q.w0 W → W.cell? ⟨p, o + k, none⟩ = some (.int .i64 z) := by
  obtain ⟨p, o, z, e1, _, e2, e3⟩ := num_at hq.r hk
  have hl : k < q.zs.length := by rw [← hq.hn]; exact hk
  obtain ⟨_, e4⟩ := List.getElem?_eq_some_iff.1 e2
  have hd : q.zs.drop k = z :: q.zs.drop (k + 1) := by rw [List.drop_eq_getElem_cons hl, e4]
  have hz := hq.right.z z (List.mem_of_getElem? e2)
  have hu := us_pos hq.right
  refine ⟨p, o, z, e1, e2, hd, ⟨hz.1, by omega⟩, fun y hy => ?_, e3⟩
  have hp : (z :: q.zs.drop (k + 1)).Pairwise (fun a b => b < a) := by rw [← hd]; exact hq.right.o.drop
  have h1 := (List.pairwise_cons.1 hp).1 y hy
  have h2 := hq.right.z y (List.mem_of_mem_drop hy)
  exact ⟨h2.1, by omega⟩
set_option linter.unusedSimpArgs false in
set_option maxRecDepth 100000 in
set_option maxHeartbeats 8000000 in
theorem comp_any (q : Env) (hq : q.Ok) : ∀ (d k : Nat) (kI : Int) (pre : List Int) (kn l : Int) (v : Value) (L : List (List Int)) (w : World), kI = (k : Int) → k + d = q.n → pre.length = k → 0 ≤ kn → kn ≤ 12 → 0 ≤ l → l ≤ 12000 → L.length ≤ q.m → CI q v (pre ++ List.replicate d 0) L w →
    Calls Try.prog 66 #[.int .i64 kI, .int .i64 kn, .int .i64 l, .pointer (some ⟨q.po, 0, none⟩), .pointer (some ⟨q.pm, 0, none⟩), .pointer (some ⟨q.pc, 0, none⟩), .pointer (some ⟨q.pd, 0, none⟩), .pointer (some ⟨q.pf, 0, none⟩)] w (CPost q (pre ++ List.replicate d 0) ((L ++ (ext pre (pat q.T q.J (q.zs.drop k) kn l))).take q.m)) := by
  have n8 : q.n ≤ 8 := by rw [hq.hn]; exact hq.right.n.2
  have m1 := hq.hm
  have qT := hq.right.t
  have qW := hq.right.w
  have qK := hq.right.k
  intro d
  induction d with
  | zero =>
    intro k kI pre kn l v L w hkI hkd hpre hkn hkn2 hl hl2 hLm hci
    subst hkI
    obtain rfl : k = q.n := by omega
    rw [show pre ++ List.replicate 0 (0 : Int) = pre by simp] at hci ⊢
    have CC := hid hci
    have cO := hci.o.cell
    have cM := hci.m.cell
    have cC := hci.c.cell
    have cD := hci.d.cell
    obtain ⟨vs, hvs, hps⟩ := hci.row
    obtain ⟨A, cap, rfl, _, _⟩ := own_form hvs
    have LF := hid (ext_leaf q.T q.J pre kn l)
    have DR : Hid (q.zs.drop q.n = []) := hid (by rw [hq.hn]; exact List.drop_length)
    have HV := hid hvs
    have HP := hid hps
    have PL := hid hpre
    clear hci hvs hps hpre
    by_cases hfull : L.length = q.m
    · have R : Hid ((L ++ (ext pre (pat q.T q.J (q.zs.drop q.n) kn l))).take q.m = L) := hid (take_le hfull)
      go_enter Try.func66, Try.ntmps66
      go_wp2
      refine bodyPost_ret (results_none rfl _ _ _) rfl ?_
      rw [R.out]
      exact ⟨rfl, _, CC.out⟩
    have hlt : L.length < q.m := by omega
    by_cases hfit : l ≤ q.T ∧ kn < q.J
    rotate_left
    · have R : Hid ((L ++ (ext pre (pat q.T q.J (q.zs.drop q.n) kn l))).take q.m = L) := hid (by rw [DR.out, LF.out, if_neg hfit, List.append_nil, List.take_of_length_le hLm])
      have hf2 : q.T < l ∨ (l ≤ q.T ∧ q.J ≤ kn) := by omega
      clear hfit
      rcases hf2 with hf2 | ⟨hf2, hf3⟩
      all_goals
        go_enter Try.func66, Try.ntmps66
        go_wp2
        refine bodyPost_ret (results_none rfl _ _ _) rfl ?_
        rw [R.out]
        exact ⟨rfl, _, CC.out⟩
    have R : Hid ((L ++ (ext pre (pat q.T q.J (q.zs.drop q.n) kn l))).take q.m = L ++ [pre]) := hid (by rw [DR.out, LF.out, if_pos hfit, List.take_of_length_le (by simp; omega)])
    obtain ⟨hf2, hf3⟩ := hfit
    go_enter Try.func66, Try.ntmps66
    go_upto_region 3 with fail
    refine wp_region_last (fun w' => Blk w' q.po 89 #[.slice A L.length cap] ∧ Blk w' q.pc 30 #[.slice (some ⟨q.g, 0, none⟩) q.n q.n]) (by kernel_rfl) (by kernel_rfl) ?_
    simp only [dullLast, dullOp, List.length_cons, List.length_nil, Nat.zero_add, Nat.reduceAdd]
    have hS : Blk w.drew q.po 89 #[.slice A L.length cap] ∧ Blk w.drew q.pc 30 #[.slice (some ⟨q.g, 0, none⟩) q.n q.n] := ⟨CC.out.o, CC.out.c⟩
    refine take_at (i := 0) (v := ?_) rfl rfl (by kernel_rfl) (by kernel_rfl) (by kernel_rfl) (fun _ _ _ h => h) (Or.inl ⟨by rfl, ?_⟩) hS ?_
    rotate_left
    · intro wi hSw; have ci0 := hSw.1.cell; go_simp; try with_reducible rfl
    try simp only [List.setIfInBounds_toArray, List.set_cons_zero, List.set_cons_succ]
    refine take_at (i := 1) (v := ?_) rfl rfl (by kernel_rfl) (by kernel_rfl) (by kernel_rfl) (fun _ _ _ h => h) (Or.inl ⟨by rfl, ?_⟩) hS ?_
    rotate_left
    · intro wi hSw; have ci0 := hSw.2.cell; go_simp; try with_reducible rfl
    try simp only [List.setIfInBounds_toArray, List.set_cons_zero, List.set_cons_succ]
    refine wpAnyH_ready (rs := [2]) (by kernel_rfl) (by simp) ?_
    refine AllReadyH.cons rfl (fun K hK => ?_) AllReadyH.nil
    go_simp
    (go_at_call 67; refine (clone_any _ _ _ pre _ (arr_rds CC.out.arr.drew PL.out.symm) PL.out.symm (by omega)).mono ?_; rintro e w1 ⟨u1, rfl, hu, hb⟩; rw [PL.out] at hu; obtain ⟨A1, c1, rfl, _, _⟩ := own_form hu; have HB1 := hid (show Below w.heap.size w w1 from (Below.drew (Below.refl _ _)).trans hb); have RN1 := hid (Rds.own hu (S := fun b => b < w.heap.size) (fun g hg e => by have := (own_blk hu g hg).1; simp at this; omega)); have P1 := hid (CC.out.o.below HB1.out CC.out.o.lt); have Q1 := hid (CC.out.c.below HB1.out CC.out.c.lt); clear hu hb hS)
    refine hK.out _ _ ⟨P1.out, Q1.out⟩ (fun hS => ?_)
    clear hK K
    try simp only [Act.put, List.setIfInBounds_toArray, List.set_cons_zero, List.set_cons_succ]
    refine wpAnyH_ready (rs := [3]) (by kernel_rfl) (by simp) ?_
    refine AllReadyH.cons rfl (fun K hK => ?_) AllReadyH.nil
    go_simp
    refine hK.out _ _ ⟨Blk.alloc P1.out _, Blk.alloc Q1.out _⟩ (fun hS => ?_)
    clear hK K
    try simp only [Act.put, List.setIfInBounds_toArray, List.set_cons_zero, List.set_cons_succ]
    refine wpAnyH_ready (rs := [4]) (by kernel_rfl) (by simp) ?_
    refine AllReadyH.cons rfl (fun K hK => ?_) AllReadyH.nil
    have D1 := hid (HB1.out.trans (Below.alloc (Below.refl w1.heap.size w1) (Nat.le_refl _) (.cells #[.slice A1 q.n c1] 30) |>.mono HB1.out.size))
    refine step_app (n := L.length) (v := .slice A L.length cap) (xs := vs) (m := 1) (S := Nn) (news := [.slice A1 q.n c1]) (s := .tmp 31) (x := .tmp 34) infoL Try.underlying89 (by kernel_rfl) (by omega) (by omega) (own_keep (own_base_le HV.out (Nat.zero_le _)) (Chg.of_below (S := fun b => w.heap.size ≤ b) D1.out (fun _ _ h => h)) (fun b hb e => by have := (own_blk HV.out b hb).2; omega)) (Rds.one _ _ _) (by intro u hu; simp at hu; subst hu; rfl) (by omega) rfl rfl rfl rfl ?_
    intro v4 w4 hown hchg hnew
    obtain ⟨A4, c4, rfl, _, _⟩ := own_form hown
    have LW : ∀ b, b < q.N → ¬ Rw (.slice A L.length cap) b := fun b hb e => by have := (own_blk HV.out b e).1; omega
    have P4 := hid ((Blk.alloc P1.out (.cells #[.slice A1 q.n c1] 30)).keep hchg (LW _ hq.high.1))
    have Q4 := hid ((Blk.alloc Q1.out (.cells #[.slice A1 q.n c1] 30)).keep hchg (LW _ hq.high.2.2.1))
    have CF := hid (CI.app (A := A1) (c := c1) (l := pre) hq CC.out HV.out HP.out D1.out (by rw [PL.out]; exact RN1.out.keep ((Chg.refl _ _).alloc _)) (by rw [PL.out]; exact hown) hchg hnew)
    clear hown hchg hnew LW hS
    refine hK.out _ _ ⟨P4.out, Q4.out⟩ (fun hS => ?_)
    clear hK K
    try simp only [Act.put, List.setIfInBounds_toArray, List.set_cons_zero, List.set_cons_succ]
    refine take_none (i := 5) (v := ?_) rfl rfl (by kernel_rfl) (by kernel_rfl) (by kernel_rfl) (fun _ _ _ h => h) (Or.inl ⟨by rfl, ?_⟩) hS ?_
    rotate_left
    · intro w hSw; go_simp; try with_reducible rfl
    refine wpAnyH_done (by kernel_rfl) ?_ _
    simp only [LastQ, List.length_cons, List.length_nil, Nat.zero_add, Nat.reduceAdd, Nat.reduceSub, List.drop_succ_cons, List.drop_zero]
    have cP := P4.out.cell
    have fP := P4.out.frozen
    clear hS cO cM cC cD
    go_wp2_with fail
    refine bodyPost_ret (results_none rfl _ _ _) rfl ?_
    rw [R.out]
    exact ⟨rfl, _, CF.out⟩
  | succ d ih =>
    intro k kI pre kn l v L w hkI hkd hpre hkn hkn2 hl hl2 hLm hci
    subst hkI
    have hkn3 : k < q.n := by omega
    obtain ⟨p, o, z, hA, hz, hdr, hzb, hzs, hcell⟩ := zs_at hq hkn3
    have CC := hid hci
    have cO := hci.o.cell
    have cM := hci.m.cell
    have cC := hci.c.cell
    have cD := hci.d.cell
    have cZ := hcell w hci.bel
    rw [hA] at cD
    obtain ⟨vs, hvs, hps⟩ := hci.row
    obtain ⟨A, cap, rfl, _, _⟩ := own_form hvs
    have PL := hid hpre
    have IH := hid ih
    have HC := hid hcell
    have HA := hid hA
    have HDR := hid hdr
    clear hci hvs hps ih hpre hcell hA
    obtain ⟨hz1, hz2⟩ := hzb
    have hkz : 0 ≤ kn * z ∧ kn * z ≤ 144000 := ⟨Int.mul_nonneg hkn (by omega), by
      have h1 := Int.mul_le_mul_of_nonneg_right hkn2 (show 0 ≤ z by omega)
      omega⟩
    obtain ⟨hkz1, hkz2⟩ := hkz
    obtain ⟨Y, hY⟩ : ∃ Y, kn * z = Y := ⟨_, rfl⟩
    rw [hY] at hkz1 hkz2
    by_cases hfull : L.length = q.m
    · have RE : Hid ((L ++ (ext pre (pat q.T q.J (q.zs.drop k) kn l))).take q.m = L) := hid (take_le hfull)
      go_enter Try.func66, Try.ntmps66
      go_wp2
      refine bodyPost_ret (results_none rfl _ _ _) rfl ?_
      rw [RE.out]
      exact ⟨rfl, _, CC.out⟩
    have hlt : L.length < q.m := by omega
    by_cases hprune : q.T < l - Y
    · have RE : Hid ((L ++ (ext pre (pat q.T q.J (q.zs.drop k) kn l))).take q.m = L) := hid (by
        rw [HDR.out, pat_prune hz1 (z :: q.zs.drop (k + 1)) kn l hkn (fun y hy => ?_) (by rw [hY]; exact hprune)]
        · simp [ext, List.take_of_length_le hLm]
        · rcases List.mem_cons.1 hy with rfl | hy
          · omega
          · exact hzs y hy)
      go_enter Try.func66, Try.ntmps66
      go_wp2
      refine bodyPost_ret (results_none rfl _ _ _) rfl ?_
      rw [RE.out]
      exact ⟨rfl, _, CC.out⟩
    have HE := hid (ext_pat q.T q.J z (q.zs.drop (k + 1)) pre kn l)
    have hdz : 0 ≤ l / z ∧ l / z ≤ 12000 := ⟨Int.ediv_nonneg hl (by omega), by
      have := Int.ediv_le_self z hl
      omega⟩
    obtain ⟨hd1, hd2⟩ := hdz
    have hlz := le_div (n := l / z) (l := l) hz1
    have HZS := hid hzs
    have HYY := hid hY
    clear hzs hlz
    go_enter Try.func66, Try.ntmps66
    go_wp2
    go_loopw [12] (fun i wr => ∃ (x y : Int) (v' : Value) (L' : List (List Int)), i = .int .i64 x ∧ -1 ≤ x ∧ x ≤ min kn (l / z) ∧ CI q v' (pre ++ y :: List.replicate d 0) L' wr ∧ L'.length ≤ q.m ∧ (L' ++ (downI x).flatMap (sub q.T q.J (q.zs.drop (k + 1)) pre kn l z)).take q.m = (L ++ (ext pre (pat q.T q.J (q.zs.drop k) kn l))).take q.m) (fun i _ => (intOf i + 1).toNat)
    case atStart => exact ⟨min kn (l / z), 0, _, L, rfl, by omega, Int.le_refl _, CC.out, hLm, by rw [HDR.out, HE.out]⟩
    case round =>
      obtain ⟨x, y, v', L', rfl, hx1, hx2, hci, hL', hR⟩ := hrel
      have C2 := hid hci
      have HR := hid hR
      have cC2 := hci.c.cell
      have fG := hci.arr.frozen
      have cG := hci.arr.cell
      clear hci hR cO cM cC cD cZ
      by_cases hx : 0 ≤ x
      · have hxz : x * z ≤ l := (le_div hz1).1 (by omega)
        have hxz0 : 0 ≤ x * z := Int.mul_nonneg hx (by omega)
        obtain ⟨X, hX⟩ : ∃ X, x * z = X := ⟨_, rfl⟩
        rw [hX] at hxz hxz0
        have CS := C2.out.setArr hq k x
        rw [mid_set pre y x d k PL.out.symm] at CS
        have C3 := hid CS
        have cF3 := CS.f.cell
        have cGk : wr.cell? ⟨q.g, k, none⟩ = some (.int .i64 y) := by rw [cG, ← PL.out]; simp [ints]
        have w1 : IntKind.i64.wrap X = X := IntWalk.i64_in _ (by omega)
        clear CS cG
        go_wp2_with fail
        refine (IH.out (k + 1) _ (pre ++ [x]) (kn - x) (l - X) v' L' _ (by omega) (by omega) (by rw [List.length_append, PL.out]; rfl) (by omega) (by omega) (by omega) (by omega) hL' (by rw [List.append_assoc]; exact C3.out)).mono ?_
        rintro e w5 ⟨rfl, v5, hc5⟩
        have C5 := hid hc5
        clear hc5 cF3 cGk fG cC2
        go_wp2
        go_roundw
        case rel =>
          have C6 := C5.out
          rw [List.append_assoc] at C6
          refine ⟨x - 1, x, v5, _, by go_num, by omega, by omega, C6, by rw [List.length_take]; exact Nat.min_le_left _ _, ?_⟩
          have := round_take hx HR.out
          unfold sub at this
          rw [hX] at this
          exact this
        case measure => simp [intOf]; omega
      · obtain rfl : x = -1 := by omega
        have RF : Hid (L' = (L ++ (ext pre (pat q.T q.J (q.zs.drop k) kn l))).take q.m) := hid (by rw [← HR.out, downI_neg (by omega)]; simp [List.take_of_length_le hL'])
        have CS := C2.out.setArr hq k 0
        rw [mid_set pre y 0 d k PL.out.symm] at CS
        have C3 := hid CS
        have cGk : wr.cell? ⟨q.g, k, none⟩ = some (.int .i64 y) := by rw [cG, ← PL.out]; simp [ints]
        clear CS cG
        go_wp2
        go_end0
        rw [← HDR.out, ← RF.out]
        exact ⟨rfl, v', C3.out⟩
end Go.Proofs.Ytccgbojcghbdcaa
