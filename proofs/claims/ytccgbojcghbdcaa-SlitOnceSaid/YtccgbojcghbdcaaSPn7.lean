/- Chapter 38: the reference's list of the patterns. -/
import Derived.Test.YtccgbojcghbdcaaSPn6
namespace Go.Proofs.Ytccgbojcghbdcaa
open Go.RowKit

theorem Rds.allocK' {S : Nat → Prop} {w : World} {sz n : Nat} {A : Option Addr} {xs : List Value} (h : Rds S w sz A n xs) (o : Obj) : Rds S (w.alloc o) sz A n xs := h.keep ((Chg.refl S _).alloc _)
theorem Rds.drewK' {S : Nat → Prop} {w : World} {sz n : Nat} {A : Option Addr} {xs : List Value} (h : Rds S w sz A n xs) : Rds S w.drew sz A n xs := h.keep ((Chg.refl S _).drew)
theorem PRow.one {S : Nat → Prop} {w : World} {vs : List Value} {L : List (List Int)} (h : PRow S w vs L) : ∀ u ∈ vs, u.oneCell' = true := by
  intro u hu
  obtain ⟨j, hj⟩ := List.mem_iff_getElem?.1 hu
  have hl : j < L.length := by rw [← h.1]; exact (List.getElem?_eq_some_iff.1 hj).1
  obtain ⟨l, A, c, _, e, _⟩ := h.at_ hl
  rw [hj] at e
  injection e with e
  subst e
  rfl
def AllPost (w : World) (L : List (List Int)) : Ending → World → Prop := fun e w' => ∃ A c vs, e = .returned (.slice A L.length c) ∧ Rds Nn w' 1 A L.length vs ∧ PRow Nn w' vs L ∧ Below w.heap.size w w'
theorem sum_snoc (c : List Int) (x : Int) : sumI (c ++ [x]) = sumI c + x := by
  induction c with
  | nil => simp [sumI]
  | cons y c ih => simp only [List.cons_append, sumI, ih]; omega
theorem dot_snoc {c zs : List Int} {x z : Int} (hz : zs[c.length]? = some z) : dot (c ++ [x]) zs = dot c zs + x * z := by
  induction c generalizing zs with
  | nil =>
    cases zs with
    | nil => simp at hz
    | cons u zs => simp at hz; subst hz; simp [dot]
  | cons y c ih =>
    cases zs with
    | nil => simp at hz
    | cons u zs =>
      simp only [List.length_cons, List.getElem?_cons_succ] at hz
      simp only [List.cons_append, dot, ih hz]
      omega
theorem fit_leaf {W E T J kn l : Int} {zs pre : List Int} (hl : pre.length = zs.length) (hp : ∀ x ∈ pre, 0 ≤ x) (hk : kn = J - sumI pre) (hd : l = us W E - dot pre zs) (h1 : 0 ≤ kn) (h2 : 0 ≤ l) : fitErr W E T J zs pre = 0 ↔ l ≤ T ∧ kn < J := by
  have hs := sumI_nonneg hp
  constructor
  · intro h
    obtain ⟨_, _, a3, a4, a5, a6⟩ := fit_ok h
    omega
  · rintro ⟨a1, a2⟩
    unfold fitErr
    rw [if_neg (fun e => e hl), if_neg (fun e => e hp), if_neg (by omega), if_neg (by omega), if_neg (by omega), if_neg (by omega)]
set_option linter.unusedSimpArgs false in
set_option maxRecDepth 100000 in
set_option maxHeartbeats 8000000 in
theorem all_any (W E T J : Int) (a : Option Addr) (c n m : Nat) (zs : List Int) (hn : n = zs.length) (hr : Right W E T J zs) (hm : m ≤ 100000) : ∀ (d k : Nat) (pre : List Int) (kn l : Int) (ap ao : Option Addr) (cp co : Nat) (L : List (List Int)) (vs : List Value) (w : World), Rds Nn w 1 a n (ints zs) → Rds Nn w 1 ap k (ints pre) → Rds Nn w 1 ao L.length vs → PRow Nn w vs L → k + d = n → pre.length = k → (∀ x ∈ pre, 0 ≤ x) → kn = J - sumI pre → l = us W E - dot pre zs → 0 ≤ kn → 0 ≤ l → L.length ≤ m + 1 →
    Calls Try.prog 63 #[.agg #[.int .i64 W, .int .i64 E, .int .i64 T, .int .i64 J, .slice a n c], .slice ap k cp, .int .i64 kn, .int .i64 l, .slice ao L.length co, .int .i64 (m : Int)] w (AllPost w ((L ++ (ext pre (pat T J (zs.drop k) kn l))).take (m + 1))) := by
  have n8 : 1 ≤ n ∧ n ≤ 8 := by rw [hn]; exact hr.n
  have ub := us_pos hr
  have kb := hr.k
  intro d
  induction d with
  | zero =>
    intro k pre kn l ap ao cp co L vs w r rp ro po hkd hpre hpos hkn hl hkn0 hl0 hLm
    obtain rfl : k = n := by omega
    have RZ := hid r
    have RP := hid rp
    have RO0 := hid ro
    have PO := hid po
    have ONE := hid po.one
    have PL := hid hpre
    have LF := hid (ext_leaf T J pre kn l)
    have DR : Hid (zs.drop k = []) := hid (by rw [hn]; exact List.drop_length)
    have FL := hid (fit_leaf (T := T) (by rw [hpre, hn]) hpos hkn hl hkn0 hl0)
    have HN := hid hn
    have D0 := hid (Blk.at_new w (b := w.heap.size) (t := 32) (cs := #[.int .i64 W, .int .i64 E, .int .i64 T, .int .i64 J, .slice a k c]) rfl)
    have B0 := hid ((Below.refl w.heap.size w).alloc (Nat.le_refl _) (.cells #[.int .i64 W, .int .i64 E, .int .i64 T, .int .i64 J, .slice a k c] 32))
    have cD := D0.out.cell
    clear r rp ro po hpre hn hkn hl
    by_cases hfull : L.length = m + 1
    · have R : Hid ((L ++ (ext pre (pat T J (zs.drop k) kn l))).take (m + 1) = L) := hid (take_le hfull)
      go_enter Try.func63, Try.ntmps63
      go_wp2
      go_ret
      rw [R.out]
      exact ⟨_, _, vs, rfl, RO0.out.below B0.out, PO.out.below B0.out, B0.out⟩
    have hlt : L.length ≤ m := by omega
    go_enter Try.func63, Try.ntmps63
    go_wp2_with (refine wpList_load_blk2 (t := 32) rfl rfl rfl Try.underlying32 rfl (by kernel_rfl) D0.out ?_)
    refine (rfits_any W E T J a ap c cp k k zs pre _ (RZ.out.below B0.out) (RP.out.below B0.out) HN.out PL.out.symm (by omega) hr).mono ?_
    rintro e y1 ⟨rfl, hb⟩
    have B1 := hid (B0.out.trans (hb.mono B0.out.size))
    have RO := hid ((RO0.out.below B0.out).below hb)
    clear hb cD
    by_cases hfit : fitErr W E T J zs pre = 0
    rotate_left
    · have R : Hid ((L ++ (ext pre (pat T J (zs.drop k) kn l))).take (m + 1) = L) := hid (by rw [DR.out, LF.out, if_neg (fun e => hfit (FL.out.2 e)), List.append_nil, List.take_of_length_le hLm])
      have hz : (fitErr W E T J zs pre == 0) = false := by simpa using hfit
      go_wp2
      go_ret
      rw [R.out]
      exact ⟨_, _, vs, rfl, RO.out, PO.out.below B1.out, B1.out⟩
    have R : Hid ((L ++ (ext pre (pat T J (zs.drop k) kn l))).take (m + 1) = L ++ [pre]) := hid (by rw [DR.out, LF.out, if_pos (FL.out.1 hfit), List.take_of_length_le (by simp; omega)])
    rw [hfit]
    clear hfit
    go_wp2_with (first
      | (at_builtin; refine wpList_app (n := 0) (m := L.length) (news := vs) (xs := []) infoL Try.underlying89 (by kernel_rfl) (by omega) (by omega) (own_empty _ 0 (Nat.zero_le _) _ _) (RO.out.allocK' _) ONE.out (by omega) rfl rfl rfl rfl ?_; intro v5 w5 hown hchg hnew; rw [Nat.zero_add, List.nil_append] at hown; obtain ⟨A5, c5, rfl, _, _⟩ := own_form hown; have B5 := hid (chg_new hchg); have G5 := hid (newer_new hnew); have O5 := hid hown; clear hown hchg hnew)
      | (at_builtin; refine wpList_app (n := L.length) (m := 1) (news := [.slice ap k cp]) (xs := vs) infoL Try.underlying89 (by kernel_rfl) (by omega) (by omega) (own_keep O5.out ((Chg.refl Nn _).alloc _) (fun _ _ => id)) (Rds.one _ _ _) (by intro u hu; simp at hu; subst hu; rfl) (by omega) rfl rfl rfl rfl ?_; intro v6 w6 hown hchg hnew; obtain ⟨A6, c6, rfl, _, _⟩ := own_form hown; have B6 := hid (hchg.then_below (B5.out.trans (Below.alloc (Below.refl w5.heap.size w5) (Nat.le_refl _) (.cells #[.slice ap k cp] 30) |>.mono B5.out.size)) (fun b hb e => by have := G5.out b e; omega) (Nat.le_trans B5.out.size (by simp))); have O6 := hid hown; clear hown hchg hnew))
    go_ret
    rw [R.out]
    refine ⟨A6, c6, vs ++ [.slice ap k cp], by rw [List.length_append]; rfl, ?_, ?_, B1.out.trans (B6.out.mono B1.out.size)⟩
    · rw [List.length_append]
      exact Rds.own O6.out (fun _ _ => id)
    · have h1 := (PO.out.below B1.out).below B6.out
      have h2 := (RP.out.below B1.out).below B6.out
      have h3 := PRow.snoc (c := cp) h1 (l := pre) (by rw [PL.out]; exact h2)
      rw [PL.out] at h3
      exact h3
  | succ d ih =>
    intro k pre kn l ap ao cp co L vs w r rp ro po hkd hpre hpos hkn hl hkn0 hl0 hLm
    have hk3 : k < n := by omega
    obtain ⟨p, o, z, rfl, _, hz, hcell⟩ := num_at r hk3
    have hdr : zs.drop k = z :: zs.drop (k + 1) := by
      have hl : k < zs.length := by rw [← hn]; exact hk3
      rw [List.drop_eq_getElem_cons hl, (List.getElem?_eq_some_iff.1 hz).2]
    have hzb := hr.z z (List.mem_of_getElem? hz)
    have IH := hid ih
    have RZ := hid r
    have RP := hid rp
    have RO := hid ro
    have PO := hid po
    have PL := hid hpre
    have HDR := hid hdr
    have PN : Hid (∀ x, 0 ≤ x → ∀ y ∈ pre ++ [x], 0 ≤ y) := hid (fun x hx y hy => by
      rcases List.mem_append.1 hy with h | h
      · exact hpos y h
      · simp at h; omega)
    have SE : Hid (∀ x, kn - x = J - sumI (pre ++ [x])) := hid (fun x => by rw [sum_snoc]; omega)
    have DE : Hid (∀ x, l - x * z = us W E - dot (pre ++ [x]) zs) := hid (fun x => by rw [dot_snoc (by rw [hpre]; exact hz)]; omega)
    have hkn12 : kn ≤ 12 := by have := sumI_nonneg hpos; omega
    have hl12 : l ≤ 12000 := by have := dot_nonneg hpos (fun q hq => (hr.z q hq).1); omega
    have D0 := hid (Blk.at_new w (b := w.heap.size) (t := 32) (cs := #[.int .i64 W, .int .i64 E, .int .i64 T, .int .i64 J, .slice (some ⟨p, o, none⟩) n c]) rfl)
    have B0 := hid ((Below.refl w.heap.size w).alloc (Nat.le_refl _) (.cells #[.int .i64 W, .int .i64 E, .int .i64 T, .int .i64 J, .slice (some ⟨p, o, none⟩) n c] 32))
    have cD := D0.out.cell
    have cZ := hcell _ B0.out
    clear ih r rp ro po hpre hdr hpos hkn hl hcell hz hn
    obtain ⟨hz1, hz2⟩ := hzb
    by_cases hfull : L.length = m + 1
    · have R : Hid ((L ++ (ext pre (pat T J (zs.drop k) kn l))).take (m + 1) = L) := hid (take_le hfull)
      go_enter Try.func63, Try.ntmps63
      go_wp2
      go_ret
      rw [R.out]
      exact ⟨_, _, vs, rfl, RO.out.below B0.out, PO.out.below B0.out, B0.out⟩
    have hlt : L.length ≤ m := by omega
    have HE := hid (ext_pat T J z (zs.drop (k + 1)) pre kn l)
    have hdz : 0 ≤ l / z ∧ l / z ≤ 12000 := ⟨Int.ediv_nonneg hl0 (by omega), by
      have := Int.ediv_le_self z hl0
      omega⟩
    obtain ⟨hd1, hd2⟩ := hdz
    have hzf : ¬ ((m : Int) < (L.length : Int)) := by omega
    have hzk : ((k : Int) == (n : Int)) = false := by simp; omega
    go_enter Try.func63, Try.ntmps63
    go_wp2
    go_loopw [4, 14] (fun u i wr => ∃ (x : Int) (L' : List (List Int)) (A' : Option Addr) (c' : Nat) (vs' : List Value), u = .slice A' L'.length c' ∧ i = .int .i64 x ∧ -1 ≤ x ∧ x ≤ min kn (l / z) ∧ Rds Nn wr 1 A' L'.length vs' ∧ PRow Nn wr vs' L' ∧ L'.length ≤ m + 1 ∧ (L' ++ (downI x).flatMap (sub T J (zs.drop (k + 1)) pre kn l z)).take (m + 1) = (L ++ (ext pre (pat T J (zs.drop k) kn l))).take (m + 1) ∧ Blk wr w.heap.size 32 #[.int .i64 W, .int .i64 E, .int .i64 T, .int .i64 J, .slice (some ⟨p, o, none⟩) n c] ∧ Below w.heap.size w wr) (fun _ i _ => (intOf i + 1).toNat)
    case atStart => exact ⟨min kn (l / z), L, ao, co, vs, rfl, rfl, by omega, Int.le_refl _, RO.out.below B0.out, PO.out.below B0.out, hLm, by rw [HDR.out, HE.out], D0.out, B0.out⟩
    case round =>
      obtain ⟨x, L', A', c', vs', rfl, rfl, hx1, hx2, hro, hpo, hL', hR, hD, hbel⟩ := hrel
      have RO' := hid hro
      have PO' := hid hpo
      have HR := hid hR
      have DD := hid hD
      have BB := hid hbel
      clear hro hpo hR hD hbel cD cZ
      by_cases hx : 0 ≤ x
      · have hxz : x * z ≤ l := (le_div hz1).1 (by omega)
        have hxz0 : 0 ≤ x * z := Int.mul_nonneg hx (by omega)
        obtain ⟨X, hX⟩ : ∃ X, x * z = X := ⟨_, rfl⟩
        rw [hX] at hxz hxz0
        have w1 : IntKind.i64.wrap X = X := IntWalk.i64_in _ (by omega)
        have w2 : IntKind.i64.wrap (l - X) = l - X := IntWalk.i64_in _ (by omega)
        have w3 : IntKind.i64.wrap (kn - x) = kn - x := IntWalk.i64_in _ (by omega)
        go_upto_region 11 with fail
        refine wp_region_hand (fun w' => Blk w' w.heap.size 32 #[.int .i64 W, .int .i64 E, .int .i64 T, .int .i64 J, .slice (some ⟨p, o, none⟩) n c]) (by kernel_rfl) ?_
        simp only [List.length_cons, List.length_nil, Nat.zero_add, Nat.reduceAdd]
        have hS : Blk wr.drew w.heap.size 32 #[.int .i64 W, .int .i64 E, .int .i64 T, .int .i64 J, .slice (some ⟨p, o, none⟩) n c] := DD.out
        have DD0 := hid (Blk.drew DD.out)
        have BB0 := hid (Below.drew (Below.refl wr.heap.size wr))
        generalize hz0 : wr.drew = z0 at DD0 BB0 hS ⊢
        refine take_at (i := 0) (v := .agg #[.int .i64 W, .int .i64 E, .int .i64 T, .int .i64 J, .slice (some ⟨p, o, none⟩) n c]) rfl rfl (by kernel_rfl) (by kernel_rfl) (by kernel_rfl) (fun _ _ _ h => h) (Or.inl ⟨by rfl, fun wi hSw => exec_loads (p := .pointer (some ⟨w.heap.size, 0, none⟩)) rfl rfl (load_blk hSw Try.underlying32 rfl (by kernel_rfl))⟩) hS ?_
        try simp only [List.setIfInBounds_toArray, List.set_cons_zero, List.set_cons_succ]
        refine take_at (i := 2) (v := ?_) rfl rfl (by kernel_rfl) (by kernel_rfl) (by kernel_rfl) (fun _ _ _ h => h) (Or.inl ⟨by rfl, ?_⟩) hS ?_
        rotate_left
        · intro w hSw; (try dsimp only at hSw); go_simp; try with_reducible rfl
        try simp only [List.setIfInBounds_toArray, List.set_cons_zero, List.set_cons_succ]
        refine take_at (i := 4) (v := ?_) rfl rfl (by kernel_rfl) (by kernel_rfl) (by kernel_rfl) (fun _ _ _ h => h) (Or.inl ⟨by rfl, ?_⟩) hS ?_
        rotate_left
        · intro w hSw; (try dsimp only at hSw); go_simp; try with_reducible rfl
        try simp only [List.setIfInBounds_toArray, List.set_cons_zero, List.set_cons_succ]
        refine take_at (i := 7) (v := ?_) rfl rfl (by kernel_rfl) (by kernel_rfl) (by kernel_rfl) (fun _ _ _ h => h) (Or.inl ⟨by rfl, ?_⟩) hS ?_
        rotate_left
        · intro w hSw; (try dsimp only at hSw); go_simp; try with_reducible rfl
        try simp only [List.setIfInBounds_toArray, List.set_cons_zero, List.set_cons_succ]
        refine take_at (i := 8) (v := ?_) rfl rfl (by kernel_rfl) (by kernel_rfl) (by kernel_rfl) (fun _ _ _ h => h) (Or.inl ⟨by rfl, ?_⟩) hS ?_
        rotate_left
        · intro w hSw; (try dsimp only at hSw); go_simp; try with_reducible rfl
        try simp only [List.setIfInBounds_toArray, List.set_cons_zero, List.set_cons_succ]
        refine take_at (i := 9) (v := ?_) rfl rfl (by kernel_rfl) (by kernel_rfl) (by kernel_rfl) (fun _ _ _ h => h) (Or.inl ⟨by rfl, ?_⟩) hS ?_
        rotate_left
        · intro w hSw; (try dsimp only at hSw); go_simp; try with_reducible rfl
        try simp only [List.setIfInBounds_toArray, List.set_cons_zero, List.set_cons_succ]
        refine take_at (i := 10) (v := ?_) rfl rfl (by kernel_rfl) (by kernel_rfl) (by kernel_rfl) (fun _ _ _ h => h) (Or.inl ⟨by rfl, ?_⟩) hS ?_
        rotate_left
        · intro w hSw; (try dsimp only at hSw); go_simp; try with_reducible rfl
        try simp only [List.setIfInBounds_toArray, List.set_cons_zero, List.set_cons_succ]
        refine take_at (i := 11) (v := ?_) rfl rfl (by kernel_rfl) (by kernel_rfl) (by kernel_rfl) (fun _ _ _ h => h) (Or.inl ⟨by rfl, ?_⟩) hS ?_
        rotate_left
        · intro w hSw; (try dsimp only at hSw); go_simp; try with_reducible rfl
        try simp only [List.setIfInBounds_toArray, List.set_cons_zero, List.set_cons_succ]
        refine take_at (i := 12) (v := ?_) rfl rfl (by kernel_rfl) (by kernel_rfl) (by kernel_rfl) (fun _ _ _ h => h) (Or.inl ⟨by rfl, ?_⟩) hS ?_
        rotate_left
        · intro w hSw; (try dsimp only at hSw); go_simp; try with_reducible rfl
        try simp only [List.setIfInBounds_toArray, List.set_cons_zero, List.set_cons_succ]
        refine take_at (i := 13) (v := ?_) rfl rfl (by kernel_rfl) (by kernel_rfl) (by kernel_rfl) (fun _ _ _ h => h) (Or.inl ⟨by rfl, ?_⟩) hS ?_
        rotate_left
        · intro w hSw; (try dsimp only at hSw); go_simp; try with_reducible rfl
        try simp only [List.setIfInBounds_toArray, List.set_cons_zero, List.set_cons_succ]
        refine take_at (i := 14) (v := ?_) rfl rfl (by kernel_rfl) (by kernel_rfl) (by kernel_rfl) (fun _ _ _ h => h) (Or.inl ⟨by rfl, ?_⟩) hS ?_
        rotate_left
        · intro w hSw; (try dsimp only at hSw); go_simp; try with_reducible rfl
        try simp only [List.setIfInBounds_toArray, List.set_cons_zero, List.set_cons_succ]
        refine take_at (i := 15) (v := ?_) rfl rfl (by kernel_rfl) (by kernel_rfl) (by kernel_rfl) (fun _ _ _ h => h) (Or.inl ⟨by rfl, ?_⟩) hS ?_
        rotate_left
        · intro w hSw; (try dsimp only at hSw); go_simp; try with_reducible rfl
        try simp only [List.setIfInBounds_toArray, List.set_cons_zero, List.set_cons_succ]
        refine take_at (i := 16) (v := ?_) rfl rfl (by kernel_rfl) (by kernel_rfl) (by kernel_rfl) (fun _ _ _ h => h) (Or.inl ⟨by rfl, ?_⟩) hS ?_
        rotate_left
        · intro w hSw; (try dsimp only at hSw); go_simp; try with_reducible rfl
        try simp only [List.setIfInBounds_toArray, List.set_cons_zero, List.set_cons_succ]
        refine wpAnyH_ready (rs := [1, 5]) (by kernel_rfl) (by simp) ?_
        refine AllReadyH.cons rfl (fun K hK => ?_) (AllReadyH.cons rfl (fun K hK => ?_) AllReadyH.nil)
        · go_simp
          have DD1 := hid (Blk.alloc DD0.out (.cells #[] 3))
          have BB1 := hid (Below.alloc BB0.out BB0.out.size (.cells #[] 3))
          have EE1 := hid (show (z0.alloc (.cells #[] 3)).ownsRow wr.heap.size 3 1 (.slice (some ⟨z0.heap.size, 0, none⟩) 0 0) 0 [] from own_empty z0 wr.heap.size BB0.out.size _ _)
          refine hK.out _ _ DD1.out (fun hS => ?_)
          clear hK K
          try simp only [Act.put, List.setIfInBounds_toArray, List.set_cons_zero, List.set_cons_succ]
          generalize hz1 : (z0.alloc (.cells #[] 3)) = z1 at DD1 BB1 EE1 hS ⊢
          refine wpAnyH_ready (rs := [3, 5]) (by kernel_rfl) (by simp) ?_
          refine AllReadyH.cons rfl (fun K hK => ?_) (AllReadyH.cons rfl (fun K hK => ?_) AllReadyH.nil)
          · refine step_app (n := 0) (m := k) (news := ints pre) (xs := []) (s := .tmp 53) (x := .tmp 54) info3 Try.underlying30 (by kernel_rfl) (by omega) (by omega) (own_base_le EE1.out (Nat.zero_le _)) ((RP.out.below BB.out).below BB1.out) (ints_one pre) (by omega) rfl rfl rfl rfl ?_
            intro v5 z2 hown hchg hnew
            rw [Nat.zero_add, List.nil_append] at hown
            obtain ⟨A5, c5, rfl, _, _⟩ := own_form hown
            have BB2 := hid (hchg.then_below BB1.out (fun b hb e => by have := (own_blk EE1.out b e).1; omega) BB1.out.size)
            have DD2 := hid (DD.out.below BB2.out DD.out.lt)
            have OO2 := hid (own_rebase hown (base' := wr.heap.size) (fun b hb => (hnew b hb).elim (fun e => (own_blk EE1.out b e).1) (fun e => Nat.le_trans BB1.out.size e)))
            clear hown hchg hnew hS
            refine hK.out _ _ DD2.out (fun hS => ?_)
            clear hK K
            try simp only [Act.put, List.setIfInBounds_toArray, List.set_cons_zero, List.set_cons_succ]
            refine wpAnyH_ready (rs := [5]) (by kernel_rfl) (by simp) ?_
            refine AllReadyH.cons rfl (fun K hK => ?_) AllReadyH.nil
            go_simp
            have DD3 := hid (Blk.alloc DD2.out (.cells #[.int .i64 x] 3))
            have BB3 := hid (Below.alloc BB2.out BB2.out.size (.cells #[.int .i64 x] 3))
            have SS3 := hid (show Blk (z2.alloc (.cells #[.int .i64 x] 3)) z2.heap.size 3 #[.int .i64 x] from Blk.at_new z2 rfl)
            have OO3 := hid (own_keep OO2.out ((Chg.refl Nn _).alloc (.cells #[.int .i64 x] 3)) (fun _ _ => id))
            refine hK.out _ _ DD3.out (fun hS => ?_)
            clear hK K
            try simp only [Act.put, List.setIfInBounds_toArray, List.set_cons_zero, List.set_cons_succ]
            generalize hz3 : (z2.alloc (.cells #[.int .i64 x] 3)) = z3 at DD3 BB3 SS3 OO3 hS ⊢
            refine wpAnyH_ready (rs := [6]) (by kernel_rfl) (by simp) ?_
            refine AllReadyH.cons rfl (fun K hK => ?_) AllReadyH.nil
            refine step_app (n := k) (m := 1) (news := ints [x]) (xs := ints pre) (s := .tmp 55) (x := .tmp 57) info3 Try.underlying30 (by kernel_rfl) (by omega) (by omega) (own_base_le OO3.out (Nat.zero_le _)) (arr_rds (l := [x]) SS3.out rfl) (ints_one [x]) (by omega) rfl rfl rfl rfl ?_
            intro v6 z4 hown hchg hnew
            obtain ⟨A6, c6, rfl, _, _⟩ := own_form hown
            have BB4 := hid (hchg.then_below BB3.out (fun b hb e => by have := (own_blk OO3.out b e).1; omega) BB3.out.size)
            have DD4 := hid (DD.out.below BB4.out DD.out.lt)
            have R6 := hid (show Rds Nn z4 1 A6 (k + 1) (ints (pre ++ [x])) from by rw [ints_append]; exact Rds.own hown (fun _ _ => id))
            clear hown hchg hnew hS
            refine hK.out _ _ DD4.out (fun hS => ?_)
            clear hK K
            try simp only [Act.put, List.setIfInBounds_toArray, List.set_cons_zero, List.set_cons_succ]
            refine wpAnyH_ready (rs := [17]) (by kernel_rfl) (by simp) ?_
            refine AllReadyH.cons rfl (fun K hK => ?_) AllReadyH.nil
            go_simp
            (refine (IH.out (k + 1) (pre ++ [x]) (kn - x) (l - X) A6 A' c6 c' L' vs' _ ((RZ.out.below BB.out).below BB4.out) R6.out (RO'.out.below BB4.out) (PO'.out.below BB4.out) (by omega) (by rw [List.length_append, PL.out]; rfl) (PN.out x hx) (SE.out x) (by rw [← hX]; exact DE.out x) (by omega) (by omega) hL').mono ?_; rintro e w7 ⟨A7, c7, vs7, rfl, hr7, hp7, hb7⟩; have D7 := hid (DD4.out.below hb7 DD4.out.lt); have B7 := hid (BB.out.trans ((BB4.out.trans (hb7.mono BB4.out.size)).mono BB.out.size)); have R7 := hid hr7; have P7 := hid hp7; clear hr7 hp7 hb7 hS)
            refine hK.out _ _ D7.out (fun hS => ?_)
            clear hK K
            try simp only [Act.put, List.setIfInBounds_toArray, List.set_cons_zero, List.set_cons_succ]
            refine take_at (i := 18) (v := ?_) rfl rfl (by kernel_rfl) (by kernel_rfl) (by kernel_rfl) (fun _ _ _ h => h) (Or.inl ⟨by rfl, ?_⟩) hS ?_
            rotate_left
            · intro w hSw; (try dsimp only at hSw); go_simp; try with_reducible rfl
            try simp only [List.setIfInBounds_toArray, List.set_cons_zero, List.set_cons_succ]
            refine wpAnyH_done (by kernel_rfl) ?_ _
            simp only [Sure, Exit.then]
            clear hS
            go_wp2
            go_roundw
            case rel =>
              refine ⟨x - 1, _, A7, c7, vs7, by simp, by go_num, by omega, by omega, R7.out, P7.out, by rw [List.length_take]; exact Nat.min_le_left _ _, ?_, D7.out, B7.out⟩
              have := round_take hx HR.out
              unfold sub at this
              rw [hX] at this
              exact this
            case measure => simp [intOf]; omega
          · go_simp
            have DD2 := hid (Blk.alloc DD1.out (.cells #[.int .i64 x] 3))
            have BB2 := hid (Below.alloc BB1.out BB1.out.size (.cells #[.int .i64 x] 3))
            have SS2 := hid (show Blk (z1.alloc (.cells #[.int .i64 x] 3)) z1.heap.size 3 #[.int .i64 x] from Blk.at_new z1 rfl)
            have EE2 := hid (own_keep EE1.out ((Chg.refl Nn _).alloc (.cells #[.int .i64 x] 3)) (fun _ _ => id))
            have NE : Hid (z0.heap.size ≠ z1.heap.size) := hid (by have := (own_blk EE1.out (z0.heap.size) rfl).2; omega)
            refine hK.out _ _ DD2.out (fun hS => ?_)
            clear hK K
            try simp only [Act.put, List.setIfInBounds_toArray, List.set_cons_zero, List.set_cons_succ]
            generalize hz2 : (z1.alloc (.cells #[.int .i64 x] 3)) = z2 at DD2 BB2 SS2 EE2 hS ⊢
            refine wpAnyH_ready (rs := [3]) (by kernel_rfl) (by simp) ?_
            refine AllReadyH.cons rfl (fun K hK => ?_) AllReadyH.nil
            refine step_app (n := 0) (m := k) (news := ints pre) (xs := []) (s := .tmp 53) (x := .tmp 54) info3 Try.underlying30 (by kernel_rfl) (by omega) (by omega) (own_base_le EE2.out (Nat.zero_le _)) ((RP.out.below BB.out).below BB2.out) (ints_one pre) (by omega) rfl rfl rfl rfl ?_
            intro v5 z3 hown hchg hnew
            rw [Nat.zero_add, List.nil_append] at hown
            obtain ⟨A5, c5, rfl, _, _⟩ := own_form hown
            have BB3 := hid (hchg.then_below BB2.out (fun b hb e => by have := (own_blk EE2.out b e).1; omega) BB2.out.size)
            have DD3 := hid (DD.out.below BB3.out DD.out.lt)
            have OO3 := hid (own_rebase hown (base' := wr.heap.size) (fun b hb => (hnew b hb).elim (fun e => (own_blk EE2.out b e).1) (fun e => Nat.le_trans BB2.out.size e)))
            have SS3 := hid (SS2.out.keep hchg (fun e => NE.out (by injection e)))
            clear hown hchg hnew hS
            refine hK.out _ _ DD3.out (fun hS => ?_)
            clear hK K
            try simp only [Act.put, List.setIfInBounds_toArray, List.set_cons_zero, List.set_cons_succ]
            refine wpAnyH_ready (rs := [6]) (by kernel_rfl) (by simp) ?_
            refine AllReadyH.cons rfl (fun K hK => ?_) AllReadyH.nil
            refine step_app (n := k) (m := 1) (news := ints [x]) (xs := ints pre) (s := .tmp 55) (x := .tmp 57) info3 Try.underlying30 (by kernel_rfl) (by omega) (by omega) (own_base_le OO3.out (Nat.zero_le _)) (arr_rds (l := [x]) SS3.out rfl) (ints_one [x]) (by omega) rfl rfl rfl rfl ?_
            intro v6 z4 hown hchg hnew
            obtain ⟨A6, c6, rfl, _, _⟩ := own_form hown
            have BB4 := hid (hchg.then_below BB3.out (fun b hb e => by have := (own_blk OO3.out b e).1; omega) BB3.out.size)
            have DD4 := hid (DD.out.below BB4.out DD.out.lt)
            have R6 := hid (show Rds Nn z4 1 A6 (k + 1) (ints (pre ++ [x])) from by rw [ints_append]; exact Rds.own hown (fun _ _ => id))
            clear hown hchg hnew hS
            refine hK.out _ _ DD4.out (fun hS => ?_)
            clear hK K
            try simp only [Act.put, List.setIfInBounds_toArray, List.set_cons_zero, List.set_cons_succ]
            refine wpAnyH_ready (rs := [17]) (by kernel_rfl) (by simp) ?_
            refine AllReadyH.cons rfl (fun K hK => ?_) AllReadyH.nil
            go_simp
            (refine (IH.out (k + 1) (pre ++ [x]) (kn - x) (l - X) A6 A' c6 c' L' vs' _ ((RZ.out.below BB.out).below BB4.out) R6.out (RO'.out.below BB4.out) (PO'.out.below BB4.out) (by omega) (by rw [List.length_append, PL.out]; rfl) (PN.out x hx) (SE.out x) (by rw [← hX]; exact DE.out x) (by omega) (by omega) hL').mono ?_; rintro e w7 ⟨A7, c7, vs7, rfl, hr7, hp7, hb7⟩; have D7 := hid (DD4.out.below hb7 DD4.out.lt); have B7 := hid (BB.out.trans ((BB4.out.trans (hb7.mono BB4.out.size)).mono BB.out.size)); have R7 := hid hr7; have P7 := hid hp7; clear hr7 hp7 hb7 hS)
            refine hK.out _ _ D7.out (fun hS => ?_)
            clear hK K
            try simp only [Act.put, List.setIfInBounds_toArray, List.set_cons_zero, List.set_cons_succ]
            refine take_at (i := 18) (v := ?_) rfl rfl (by kernel_rfl) (by kernel_rfl) (by kernel_rfl) (fun _ _ _ h => h) (Or.inl ⟨by rfl, ?_⟩) hS ?_
            rotate_left
            · intro w hSw; (try dsimp only at hSw); go_simp; try with_reducible rfl
            try simp only [List.setIfInBounds_toArray, List.set_cons_zero, List.set_cons_succ]
            refine wpAnyH_done (by kernel_rfl) ?_ _
            simp only [Sure, Exit.then]
            clear hS
            go_wp2
            go_roundw
            case rel =>
              refine ⟨x - 1, _, A7, c7, vs7, by simp, by go_num, by omega, by omega, R7.out, P7.out, by rw [List.length_take]; exact Nat.min_le_left _ _, ?_, D7.out, B7.out⟩
              have := round_take hx HR.out
              unfold sub at this
              rw [hX] at this
              exact this
            case measure => simp [intOf]; omega
        · go_simp
          have DD1 := hid (Blk.alloc DD0.out (.cells #[.int .i64 x] 3))
          have BB1 := hid (Below.alloc BB0.out BB0.out.size (.cells #[.int .i64 x] 3))
          have SS1 := hid (show Blk (z0.alloc (.cells #[.int .i64 x] 3)) z0.heap.size 3 #[.int .i64 x] from Blk.at_new z0 rfl)
          refine hK.out _ _ DD1.out (fun hS => ?_)
          clear hK K
          try simp only [Act.put, List.setIfInBounds_toArray, List.set_cons_zero, List.set_cons_succ]
          generalize hz1 : (z0.alloc (.cells #[.int .i64 x] 3)) = z1 at DD1 BB1 SS1 hS ⊢
          refine wpAnyH_ready (rs := [1]) (by kernel_rfl) (by simp) ?_
          refine AllReadyH.cons rfl (fun K hK => ?_) AllReadyH.nil
          go_simp
          have DD2 := hid (Blk.alloc DD1.out (.cells #[] 3))
          have BB2 := hid (Below.alloc BB1.out BB1.out.size (.cells #[] 3))
          have EE2 := hid (show (z1.alloc (.cells #[] 3)).ownsRow wr.heap.size 3 1 (.slice (some ⟨z1.heap.size, 0, none⟩) 0 0) 0 [] from own_empty z1 wr.heap.size BB1.out.size _ _)
          have SS2 := hid (Blk.alloc SS1.out (.cells #[] 3))
          have NE : Hid (z1.heap.size ≠ z0.heap.size) := hid (by have := SS1.out.lt; omega)
          refine hK.out _ _ DD2.out (fun hS => ?_)
          clear hK K
          try simp only [Act.put, List.setIfInBounds_toArray, List.set_cons_zero, List.set_cons_succ]
          generalize hz2 : (z1.alloc (.cells #[] 3)) = z2 at DD2 BB2 EE2 SS2 hS ⊢
          refine wpAnyH_ready (rs := [3]) (by kernel_rfl) (by simp) ?_
          refine AllReadyH.cons rfl (fun K hK => ?_) AllReadyH.nil
          refine step_app (n := 0) (m := k) (news := ints pre) (xs := []) (s := .tmp 53) (x := .tmp 54) info3 Try.underlying30 (by kernel_rfl) (by omega) (by omega) (own_base_le EE2.out (Nat.zero_le _)) ((RP.out.below BB.out).below BB2.out) (ints_one pre) (by omega) rfl rfl rfl rfl ?_
          intro v5 z3 hown hchg hnew
          rw [Nat.zero_add, List.nil_append] at hown
          obtain ⟨A5, c5, rfl, _, _⟩ := own_form hown
          have BB3 := hid (hchg.then_below BB2.out (fun b hb e => by have := (own_blk EE2.out b e).1; omega) BB2.out.size)
          have DD3 := hid (DD.out.below BB3.out DD.out.lt)
          have OO3 := hid (own_rebase hown (base' := wr.heap.size) (fun b hb => (hnew b hb).elim (fun e => (own_blk EE2.out b e).1) (fun e => Nat.le_trans BB2.out.size e)))
          have SS3 := hid (SS2.out.keep hchg (fun e => NE.out (by injection e)))
          clear hown hchg hnew hS
          refine hK.out _ _ DD3.out (fun hS => ?_)
          clear hK K
          try simp only [Act.put, List.setIfInBounds_toArray, List.set_cons_zero, List.set_cons_succ]
          refine wpAnyH_ready (rs := [6]) (by kernel_rfl) (by simp) ?_
          refine AllReadyH.cons rfl (fun K hK => ?_) AllReadyH.nil
          refine step_app (n := k) (m := 1) (news := ints [x]) (xs := ints pre) (s := .tmp 55) (x := .tmp 57) info3 Try.underlying30 (by kernel_rfl) (by omega) (by omega) (own_base_le OO3.out (Nat.zero_le _)) (arr_rds (l := [x]) SS3.out rfl) (ints_one [x]) (by omega) rfl rfl rfl rfl ?_
          intro v6 z4 hown hchg hnew
          obtain ⟨A6, c6, rfl, _, _⟩ := own_form hown
          have BB4 := hid (hchg.then_below BB3.out (fun b hb e => by have := (own_blk OO3.out b e).1; omega) BB3.out.size)
          have DD4 := hid (DD.out.below BB4.out DD.out.lt)
          have R6 := hid (show Rds Nn z4 1 A6 (k + 1) (ints (pre ++ [x])) from by rw [ints_append]; exact Rds.own hown (fun _ _ => id))
          clear hown hchg hnew hS
          refine hK.out _ _ DD4.out (fun hS => ?_)
          clear hK K
          try simp only [Act.put, List.setIfInBounds_toArray, List.set_cons_zero, List.set_cons_succ]
          refine wpAnyH_ready (rs := [17]) (by kernel_rfl) (by simp) ?_
          refine AllReadyH.cons rfl (fun K hK => ?_) AllReadyH.nil
          go_simp
          (refine (IH.out (k + 1) (pre ++ [x]) (kn - x) (l - X) A6 A' c6 c' L' vs' _ ((RZ.out.below BB.out).below BB4.out) R6.out (RO'.out.below BB4.out) (PO'.out.below BB4.out) (by omega) (by rw [List.length_append, PL.out]; rfl) (PN.out x hx) (SE.out x) (by rw [← hX]; exact DE.out x) (by omega) (by omega) hL').mono ?_; rintro e w7 ⟨A7, c7, vs7, rfl, hr7, hp7, hb7⟩; have D7 := hid (DD4.out.below hb7 DD4.out.lt); have B7 := hid (BB.out.trans ((BB4.out.trans (hb7.mono BB4.out.size)).mono BB.out.size)); have R7 := hid hr7; have P7 := hid hp7; clear hr7 hp7 hb7 hS)
          refine hK.out _ _ D7.out (fun hS => ?_)
          clear hK K
          try simp only [Act.put, List.setIfInBounds_toArray, List.set_cons_zero, List.set_cons_succ]
          refine take_at (i := 18) (v := ?_) rfl rfl (by kernel_rfl) (by kernel_rfl) (by kernel_rfl) (fun _ _ _ h => h) (Or.inl ⟨by rfl, ?_⟩) hS ?_
          rotate_left
          · intro w hSw; (try dsimp only at hSw); go_simp; try with_reducible rfl
          try simp only [List.setIfInBounds_toArray, List.set_cons_zero, List.set_cons_succ]
          refine wpAnyH_done (by kernel_rfl) ?_ _
          simp only [Sure, Exit.then]
          clear hS
          go_wp2
          go_roundw
          case rel =>
            refine ⟨x - 1, _, A7, c7, vs7, by simp, by go_num, by omega, by omega, R7.out, P7.out, by rw [List.length_take]; exact Nat.min_le_left _ _, ?_, D7.out, B7.out⟩
            have := round_take hx HR.out
            unfold sub at this
            rw [hX] at this
            exact this
          case measure => simp [intOf]; omega
      · obtain rfl : x = -1 := by omega
        have RF : Hid (L' = (L ++ (ext pre (pat T J (zs.drop k) kn l))).take (m + 1)) := hid (by rw [← HR.out, downI_neg (by omega)]; simp [List.take_of_length_le hL'])
        go_wp2
        go_ret
        rw [← RF.out]
        exact ⟨_, _, vs', rfl, RO'.out, PO'.out, BB.out⟩
end Go.Proofs.Ytccgbojcghbdcaa
