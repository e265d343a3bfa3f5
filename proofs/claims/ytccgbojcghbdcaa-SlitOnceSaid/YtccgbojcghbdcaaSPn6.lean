/- Chapter 38: the reference's fits. -/
import Derived.Test.YtccgbojcghbdcaaSPn5
namespace Go.Proofs.Ytccgbojcghbdcaa
open Go.RowKit

def cap (n : Int) : Int := min n 12001
theorem sum_take {l : List Int} {k : Nat} {x : Int} (h : l[k]? = some x) : sumI (l.take (k + 1)) = sumI (l.take k) + x := by
  induction l generalizing k with
  | nil => simp at h
  | cons y l ih =>
    cases k with
    | zero => simp at h; subst h; simp [sumI]
    | succ k =>
      simp only [List.getElem?_cons_succ] at h
      rw [List.take_succ_cons, List.take_succ_cons]
      simp only [sumI]
      rw [ih h]
      omega
theorem dot_take {l zs : List Int} {k : Nat} {x z : Int} (h : l[k]? = some x) (hz : zs[k]? = some z) : dot (l.take (k + 1)) zs = dot (l.take k) zs + x * z := by
  induction l generalizing k zs with
  | nil => simp at h
  | cons y l ih =>
    cases zs with
    | nil => simp at hz
    | cons u zs =>
      cases k with
      | zero => simp at h hz; subst h hz; simp [dot]
      | succ k =>
        simp only [List.getElem?_cons_succ] at h hz
        rw [List.take_succ_cons, List.take_succ_cons]
        simp only [dot]
        rw [ih h hz]
        omega
theorem cap_le {c : List Int} : sumI (c.map cap) ≤ sumI c := by
  induction c with
  | nil => simp [sumI]
  | cons y c ih =>
    simp only [List.map_cons, sumI]
    have : cap y ≤ y := by unfold cap; omega
    omega
theorem cap_nonneg {c : List Int} (h : ∀ n ∈ c, 0 ≤ n) : ∀ n ∈ c.map cap, 0 ≤ n := by
  intro n hn
  obtain ⟨y, hy, rfl⟩ := List.mem_map.1 hn
  have := h y hy
  unfold cap
  omega
theorem cap_small {c : List Int} (h : ∀ n ∈ c, 0 ≤ n) (hs : sumI (c.map cap) ≤ 12000) : c.map cap = c := by
  induction c with
  | nil => rfl
  | cons y c ih =>
    have h1 := h y (by simp)
    have h2 : ∀ n ∈ c, 0 ≤ n := fun n hn => h n (by simp [hn])
    have h3 := sumI_nonneg (cap_nonneg h2)
    simp only [List.map_cons, sumI] at hs ⊢
    have h4 : 0 ≤ cap y := by unfold cap; omega
    rw [ih h2 (by omega)]
    congr 1
    unfold cap at *
    omega
theorem fit_cap {W E T K : Int} {zs c : List Int} (hl : c.length = zs.length) (hn : ∀ n ∈ c, 0 ≤ n) (hk : K ≤ 12) : fitErr W E T K zs c = if sumI (c.map cap) = 0 then 10 else if K < sumI (c.map cap) then 23 else if us W E < dot (c.map cap) zs then 20 else if T < us W E - dot (c.map cap) zs then 24 else 0 := by
  have h1 := cap_le (c := c)
  have h2 := sumI_nonneg (cap_nonneg hn)
  have h3 := sumI_nonneg hn
  unfold fitErr
  rw [if_neg (fun e => e hl), if_neg (fun e => e hn)]
  by_cases hs : sumI (c.map cap) ≤ 12000
  · rw [cap_small hn hs]
  · rw [if_neg (by omega), if_pos (by omega), if_neg (by omega), if_pos (by omega)]
theorem sum_bd {l : List Int} {k : Nat} (h : ∀ n ∈ l, 0 ≤ n ∧ n ≤ 12001) : 0 ≤ sumI (l.take k) ∧ sumI (l.take k) ≤ 12001 * k := by
  induction l generalizing k with
  | nil => simp [sumI]; omega
  | cons y l ih =>
    cases k with
    | zero => simp [sumI]
    | succ k =>
      have := ih (k := k) (fun n hn => h n (by simp [hn]))
      have := h y (by simp)
      rw [List.take_succ_cons]
      simp only [sumI]
      omega
theorem prod_bd {x z : Int} (hx : 0 ≤ x ∧ x ≤ 12001) (hz : 0 ≤ z ∧ z ≤ 12000) : 0 ≤ x * z ∧ x * z ≤ 144012000 := by
  have h1 := Int.mul_nonneg hx.1 hz.1
  have h2 : x * z ≤ 12001 * 12000 := Int.mul_le_mul hx.2 hz.2 hz.1 (by omega)
  omega
theorem dot_bd {l zs : List Int} {k : Nat} (h : ∀ n ∈ l, 0 ≤ n ∧ n ≤ 12001) (hz : ∀ z ∈ zs, 0 ≤ z ∧ z ≤ 12000) : 0 ≤ dot (l.take k) zs ∧ dot (l.take k) zs ≤ 144012000 * k := by
  induction l generalizing k zs with
  | nil => simp [dot]; omega
  | cons y l ih =>
    cases k with
    | zero => simp [dot]
    | succ k =>
      cases zs with
      | nil => simp [dot]; omega
      | cons z zs =>
        have := ih (k := k) (zs := zs) (fun n hn => h n (by simp [hn])) (fun n hn => hz n (by simp [hn]))
        have := prod_bd (h y (by simp)) (hz z (by simp))
        rw [List.take_succ_cons]
        simp only [dot]
        omega
theorem cap_in {c : List Int} (h : ∀ n ∈ c, 0 ≤ n) : ∀ n ∈ c.map cap, 0 ≤ n ∧ n ≤ 12001 := by
  intro n hn
  obtain ⟨y, hy, rfl⟩ := List.mem_map.1 hn
  have := h y hy
  unfold cap
  omega
set_option linter.unusedSimpArgs false in
set_option maxRecDepth 100000 in
set_option maxHeartbeats 8000000 in
theorem rfits_any (W E T J : Int) (a a2 : Option Addr) (c c2 n n2 : Nat) (zs cs : List Int) (w : World) (r : Rds Nn w 1 a n (ints zs)) (r2 : Rds Nn w 1 a2 n2 (ints cs)) (hn : n = zs.length) (hn2 : n2 = cs.length) (hl2 : n2 ≤ 1000000) (hr : Right W E T J zs) : Calls Try.prog 48 #[.agg #[.int .i64 W, .int .i64 E, .int .i64 T, .int .i64 J, .slice a n c], .slice a2 n2 c2] w fun e w' => e = .returned (.int .i64 (fitErr W E T J zs cs)) ∧ Below w.heap.size w w' := by
  have n8 : 1 ≤ n ∧ n ≤ 8 := by rw [hn]; exact hr.n
  have ub := us_pos hr
  have kb := hr.k
  have wb := hr.w
  have eb := hr.e
  have tb := hr.t
  have zb := hid (show ∀ z ∈ zs, 0 ≤ z ∧ z ≤ 12000 from fun z hz => by have := hr.z z hz; omega)
  have R1 := hid r
  have R2 := hid r2
  have N1 := hid hn
  have N2 := hid hn2
  have D0 := hid (Blk.at_new w (b := w.heap.size) (t := 32) (cs := #[.int .i64 W, .int .i64 E, .int .i64 T, .int .i64 J, .slice a n c]) rfl)
  have B0 := hid ((Below.refl w.heap.size w).alloc (Nat.le_refl _) (.cells #[.int .i64 W, .int .i64 E, .int .i64 T, .int .i64 J, .slice a n c] 32))
  clear r r2 hn hn2
  have cD := D0.out.cell
  by_cases hlen : n2 = n
  rotate_left
  · have RE : Hid (3 = fitErr W E T J zs cs) := hid (by unfold fitErr; rw [if_pos (by rw [← N1.out, ← N2.out]; exact hlen)])
    go_enter Try.func48, Try.ntmps48
    go_wp2
    go_ret
    exact ⟨ret_i RE.out, B0.out⟩
  obtain rfl : n = n2 := hlen.symm
  have HLN : Hid (cs.length = zs.length) := hid (by rw [← N1.out, ← N2.out])
  go_enter Try.func48, Try.ntmps48
  go_wp2
  go_loopw [5] (fun i wr => ∃ k : Nat, k ≤ n ∧ i = .int .i64 k ∧ (∀ j x, j < k → cs[j]? = some x → 0 ≤ x) ∧ wr = w.alloc (.cells #[.int .i64 W, .int .i64 E, .int .i64 T, .int .i64 J, .slice a n c] 32)) (fun i _ => n - (intOf i).toNat)
  case atStart => exact ⟨0, Nat.zero_le _, rfl, fun j x hj => by omega, rfl⟩
  case round =>
    obtain ⟨k, hk, rfl, hall, rfl⟩ := hrel
    have AL := hid hall
    clear hall
    by_cases hlt : k < n
    · obtain ⟨p, o, x, rfl, _, hx, hcell⟩ := num_at R2.out hlt
      have e1 := hcell _ B0.out
      have HX := hid hx
      clear hcell hx
      by_cases hneg : x < 0
      · have RE : Hid (1 = fitErr W E T J zs cs) := hid (by
          unfold fitErr
          rw [if_neg (fun e => e HLN.out), if_pos (fun e => by have := e x (List.mem_of_getElem? HX.out); omega)])
        go_wp2
        go_ret
        exact ⟨ret_i RE.out, B0.out⟩
      · go_wp2
        go_roundw
        case rel =>
          refine ⟨k + 1, by omega, by go_num, fun j y hj hy => ?_, by trivial⟩
          by_cases hjk : j = k
          · subst hjk
            rw [HX.out] at hy
            injection hy with hy
            omega
          · exact AL.out j y (by omega) hy
        case measure => simp [intOf]; omega
    · obtain rfl : k = n := by omega
      have NN : Hid (∀ y ∈ cs, 0 ≤ y) := hid (all_at (fun j y hj hy => AL.out j y (by rw [N2.out]; exact hj) hy))
      have CI := hid (cap_in NN.out)
      go_wp2
      go_loopw [6, 7, 8] (fun u v i wr => ∃ k2 : Nat, k2 ≤ k ∧ i = .int .i64 k2 ∧ u = .int .i64 (sumI ((cs.map cap).take k2)) ∧ v = .int .i64 (dot ((cs.map cap).take k2) zs) ∧ Blk wr w.heap.size 32 #[.int .i64 W, .int .i64 E, .int .i64 T, .int .i64 J, .slice a k c] ∧ Below w.heap.size w wr) (fun _ _ i _ => k - (intOf i).toNat)
      case atStart => exact ⟨0, Nat.zero_le _, rfl, rfl, by simp [dot], D0.out, B0.out⟩
      case round =>
        obtain ⟨k2, hk2, rfl, rfl, rfl, hD, hbel⟩ := hrel
        have DD := hid hD
        have BB := hid hbel
        clear cD
        have cD := hD.cell
        clear hD hbel
        by_cases hlt2 : k2 < k
        · obtain ⟨p2, o2, x, rfl, _, hx, hc2⟩ := num_at R2.out hlt2
          obtain ⟨p1, o1, z, rfl, _, hz, hc1⟩ := num_at R1.out hlt2
          have e1 := hc1 _ BB.out
          have e2 := hc2 _ BB.out
          have HX := hid hx
          have HZ := hid hz
          have hcx : (cs.map cap)[k2]? = some (cap x) := by simp [hx]
          have ST := hid (sum_take hcx)
          have DT := hid (dot_take hcx hz)
          have b1 := sum_bd (k := k2) CI.out
          have b2 := dot_bd (k := k2) CI.out zb.out
          have b3 := CI.out (cap x) (List.mem_of_getElem? hcx)
          have b4 := prod_bd b3 (zb.out z (List.mem_of_getElem? hz))
          obtain ⟨SS, hSS⟩ : ∃ SS, sumI ((cs.map cap).take k2) = SS := ⟨_, rfl⟩
          obtain ⟨DS, hDS⟩ : ∃ DS, dot ((cs.map cap).take k2) zs = DS := ⟨_, rfl⟩
          obtain ⟨Y, hY⟩ : ∃ Y, min x 12001 = Y := ⟨_, rfl⟩
          obtain ⟨X, hX⟩ : ∃ X, Y * z = X := ⟨_, rfl⟩
          have hcap : cap x = Y := hY
          rw [hcap] at b3 b4 ST DT
          rw [hSS] at b1 ST
          rw [hDS] at b2 DT
          rw [hX] at b4 DT
          rw [hSS, hDS]
          have w1 : IntKind.i64.wrap X = X := IntWalk.i64_in _ (by omega)
          have w2 : IntKind.i64.wrap (SS + Y) = SS + Y := IntWalk.i64_in _ (by omega)
          have w3 : IntKind.i64.wrap (DS + X) = DS + X := IntWalk.i64_in _ (by omega)
          clear hc1 hc2 hx hz hcx hSS hDS hcap
          go_wp2_with fail
          go_quiet (fail)
          go_wp2
          go_roundw
          case rel => exact ⟨k2 + 1, by omega, by go_num, by rw [ST.out], by rw [DT.out], DD.out, below_drewN BB.out _⟩
          case measure => simp [intOf]; omega
        · obtain rfl : k2 = k := by omega
          have TK : Hid ((cs.map cap).take k2 = cs.map cap) := hid (List.take_of_length_le (by rw [List.length_map, ← N2.out]; exact Nat.le_refl _))
          have FC := hid (fit_cap (W := W) (E := E) (T := T) HLN.out NN.out kb.2)
          have b1 := sum_bd (k := k2) CI.out
          have b2 := dot_bd (k := k2) CI.out zb.out
          rw [TK.out] at b1 b2
          rw [TK.out]
          obtain ⟨SS, hSS⟩ : ∃ SS, sumI (cs.map cap) = SS := ⟨_, rfl⟩
          obtain ⟨DS, hDS⟩ : ∃ DS, dot (cs.map cap) zs = DS := ⟨_, rfl⟩
          rw [hSS, hDS] at FC
          rw [hSS] at b1
          rw [hDS] at b2
          rw [hSS, hDS]
          clear hSS hDS
          have F10 : Hid (SS = 0 → 10 = fitErr W E T J zs cs) := hid (fun h0 => by rw [FC.out, if_pos h0])
          have F23 : Hid (SS ≠ 0 → J < SS → 23 = fitErr W E T J zs cs) := hid (fun h0 h1 => by rw [FC.out, if_neg h0, if_pos h1])
          have F20 : Hid (SS ≠ 0 → SS ≤ J → us W E < DS → 20 = fitErr W E T J zs cs) := hid (fun h0 h1 h2 => by rw [FC.out, if_neg h0, if_neg (by omega), if_pos h2])
          have F24 : Hid (SS ≠ 0 → SS ≤ J → DS ≤ us W E → T < us W E - DS → 24 = fitErr W E T J zs cs) := hid (fun h0 h1 h2 h3 => by rw [FC.out, if_neg h0, if_neg (by omega), if_neg (by omega), if_pos h3])
          have F0 : Hid (SS ≠ 0 → SS ≤ J → DS ≤ us W E → us W E - DS ≤ T → 0 = fitErr W E T J zs cs) := hid (fun h0 h1 h2 h3 => by rw [FC.out, if_neg h0, if_neg (by omega), if_neg (by omega), if_neg (by omega)])
          by_cases h0 : SS = 0
          · have RE := hid (F10.out h0)
            go_wp2
            go_ret
            exact ⟨ret_i RE.out, BB.out⟩
          rcases Int.lt_or_le J SS with h1 | h1
          · have RE := hid (F23.out h0 h1)
            go_wp2
            go_ret
            exact ⟨ret_i RE.out, BB.out⟩
          go_wp2_with (refine wpList_load_blk2 (t := 32) rfl rfl rfl Try.underlying32 rfl (by kernel_rfl) DD.out ?_)
          refine (rusable_any W E T J _ _ (by omega) (by omega)).mono ?_
          rintro e wz ⟨rfl, hb⟩
          have DZ := hid (Blk.below DD.out hb DD.out.lt)
          have BZ := hid (BB.out.trans (hb.mono BB.out.size))
          clear hb cD
          have cD := DZ.out.cell
          rcases Int.lt_or_le (us W E) DS with h2 | h2
          · have RE := hid (F20.out h0 h1 h2)
            go_wp2
            go_ret
            exact ⟨ret_i RE.out, BZ.out⟩
          have wS : IntKind.i64.wrap (us W E - DS) = us W E - DS := IntWalk.i64_in _ (by omega)
          rcases Int.lt_or_le T (us W E - DS) with h3 | h3
          · have RE := hid (F24.out h0 h1 h2 h3)
            go_upto_region 20 with fail
            refine wp_region_hand (fun w' => Blk w' w.heap.size 32 #[.int .i64 W, .int .i64 E, .int .i64 T, .int .i64 J, .slice a k2 c]) (by kernel_rfl) ?_
            simp only [List.length_cons, List.length_nil, Nat.zero_add, Nat.reduceAdd]
            have hS : Blk wz.drew w.heap.size 32 #[.int .i64 W, .int .i64 E, .int .i64 T, .int .i64 J, .slice a k2 c] := DZ.out
            refine take_at (i := 0) (v := .agg #[.int .i64 W, .int .i64 E, .int .i64 T, .int .i64 J, .slice a k2 c]) rfl rfl (by kernel_rfl) (by kernel_rfl) (by kernel_rfl) (fun _ _ _ h => h) (Or.inl ⟨by rfl, fun wi hSw => exec_loads (p := .pointer (some ⟨w.heap.size, 0, none⟩)) rfl rfl (load_blk hSw Try.underlying32 rfl (by kernel_rfl))⟩) hS ?_
            try simp only [List.setIfInBounds_toArray, List.set_cons_zero, List.set_cons_succ]
            refine take_at (i := 2) (v := ?_) rfl rfl (by kernel_rfl) (by kernel_rfl) (by kernel_rfl) (fun _ _ _ h => h) (Or.inl ⟨by rfl, ?_⟩) hS ?_
            rotate_left
            · intro w hSw; (try dsimp only at hSw); go_simp; try with_reducible rfl
            try simp only [List.setIfInBounds_toArray, List.set_cons_zero, List.set_cons_succ]
            refine take_at (i := 4) (v := ?_) rfl rfl (by kernel_rfl) (by kernel_rfl) (by kernel_rfl) (fun _ _ _ h => h) (Or.inl ⟨by rfl, ?_⟩) hS ?_
            rotate_left
            · intro w hSw; (try dsimp only at hSw); go_simp; try with_reducible rfl
            try simp only [List.setIfInBounds_toArray, List.set_cons_zero, List.set_cons_succ]
            refine take_at (i := 5) (v := ?_) rfl rfl (by kernel_rfl) (by kernel_rfl) (by kernel_rfl) (fun _ _ _ h => h) (Or.inl ⟨by rfl, ?_⟩) hS ?_
            rotate_left
            · intro wi hSw; have ci0 := hSw.cell; go_simp; try with_reducible rfl
            try simp only [List.setIfInBounds_toArray, List.set_cons_zero, List.set_cons_succ]
            refine wpAnyH_ready (rs := [1]) (by kernel_rfl) (by simp) ?_
            refine AllReadyH.cons rfl (fun K hK => ?_) AllReadyH.nil
            go_simp
            (go_at_call 64; refine (rusable_any W E T J _ _ (by omega) (by omega)).mono ?_; rintro e w6 ⟨rfl, hb⟩; have HB6 := hid (show Below wz.heap.size wz w6 from (Below.drew (Below.refl _ _)).trans hb); have D6 := hid (DZ.out.below HB6.out DZ.out.lt); have B6 := hid (BZ.out.trans (HB6.out.mono BZ.out.size)); clear hb hS)
            refine hK.out _ _ D6.out (fun hS => ?_)
            clear hK K
            try simp only [Act.put, List.setIfInBounds_toArray, List.set_cons_zero, List.set_cons_succ]
            refine take_at (i := 3) (v := ?_) rfl rfl (by kernel_rfl) (by kernel_rfl) (by kernel_rfl) (fun _ _ _ h => h) (Or.inl ⟨by rfl, ?_⟩) hS ?_
            rotate_left
            · intro w hSw; (try dsimp only at hSw); go_simp; try with_reducible rfl
            try simp only [List.setIfInBounds_toArray, List.set_cons_zero, List.set_cons_succ]
            refine take_at (i := 6) (v := ?_) rfl rfl (by kernel_rfl) (by kernel_rfl) (by kernel_rfl) (fun _ _ _ h => h) (Or.inl ⟨by rfl, ?_⟩) hS ?_
            rotate_left
            · intro w hSw; (try dsimp only at hSw); go_simp; try with_reducible rfl
            try simp only [List.setIfInBounds_toArray, List.set_cons_zero, List.set_cons_succ]
            refine wpAnyH_done (by kernel_rfl) ?_ _
            simp only [Sure, Exit.then]
            clear hS
            go_wp2
            go_ret
            exact ⟨ret_i RE.out, B6.out⟩
          · have RE := hid (F0.out h0 h1 h2 h3)
            go_upto_region 20 with fail
            refine wp_region_hand (fun w' => Blk w' w.heap.size 32 #[.int .i64 W, .int .i64 E, .int .i64 T, .int .i64 J, .slice a k2 c]) (by kernel_rfl) ?_
            simp only [List.length_cons, List.length_nil, Nat.zero_add, Nat.reduceAdd]
            have hS : Blk wz.drew w.heap.size 32 #[.int .i64 W, .int .i64 E, .int .i64 T, .int .i64 J, .slice a k2 c] := DZ.out
            refine take_at (i := 0) (v := .agg #[.int .i64 W, .int .i64 E, .int .i64 T, .int .i64 J, .slice a k2 c]) rfl rfl (by kernel_rfl) (by kernel_rfl) (by kernel_rfl) (fun _ _ _ h => h) (Or.inl ⟨by rfl, fun wi hSw => exec_loads (p := .pointer (some ⟨w.heap.size, 0, none⟩)) rfl rfl (load_blk hSw Try.underlying32 rfl (by kernel_rfl))⟩) hS ?_
            try simp only [List.setIfInBounds_toArray, List.set_cons_zero, List.set_cons_succ]
            refine take_at (i := 2) (v := ?_) rfl rfl (by kernel_rfl) (by kernel_rfl) (by kernel_rfl) (fun _ _ _ h => h) (Or.inl ⟨by rfl, ?_⟩) hS ?_
            rotate_left
            · intro w hSw; (try dsimp only at hSw); go_simp; try with_reducible rfl
            try simp only [List.setIfInBounds_toArray, List.set_cons_zero, List.set_cons_succ]
            refine take_at (i := 4) (v := ?_) rfl rfl (by kernel_rfl) (by kernel_rfl) (by kernel_rfl) (fun _ _ _ h => h) (Or.inl ⟨by rfl, ?_⟩) hS ?_
            rotate_left
            · intro w hSw; (try dsimp only at hSw); go_simp; try with_reducible rfl
            try simp only [List.setIfInBounds_toArray, List.set_cons_zero, List.set_cons_succ]
            refine take_at (i := 5) (v := ?_) rfl rfl (by kernel_rfl) (by kernel_rfl) (by kernel_rfl) (fun _ _ _ h => h) (Or.inl ⟨by rfl, ?_⟩) hS ?_
            rotate_left
            · intro wi hSw; have ci0 := hSw.cell; go_simp; try with_reducible rfl
            try simp only [List.setIfInBounds_toArray, List.set_cons_zero, List.set_cons_succ]
            refine wpAnyH_ready (rs := [1]) (by kernel_rfl) (by simp) ?_
            refine AllReadyH.cons rfl (fun K hK => ?_) AllReadyH.nil
            go_simp
            (go_at_call 64; refine (rusable_any W E T J _ _ (by omega) (by omega)).mono ?_; rintro e w6 ⟨rfl, hb⟩; have HB6 := hid (show Below wz.heap.size wz w6 from (Below.drew (Below.refl _ _)).trans hb); have D6 := hid (DZ.out.below HB6.out DZ.out.lt); have B6 := hid (BZ.out.trans (HB6.out.mono BZ.out.size)); clear hb hS)
            refine hK.out _ _ D6.out (fun hS => ?_)
            clear hK K
            try simp only [Act.put, List.setIfInBounds_toArray, List.set_cons_zero, List.set_cons_succ]
            refine take_at (i := 3) (v := ?_) rfl rfl (by kernel_rfl) (by kernel_rfl) (by kernel_rfl) (fun _ _ _ h => h) (Or.inl ⟨by rfl, ?_⟩) hS ?_
            rotate_left
            · intro w hSw; (try dsimp only at hSw); go_simp; try with_reducible rfl
            try simp only [List.setIfInBounds_toArray, List.set_cons_zero, List.set_cons_succ]
            refine take_at (i := 6) (v := ?_) rfl rfl (by kernel_rfl) (by kernel_rfl) (by kernel_rfl) (fun _ _ _ h => h) (Or.inl ⟨by rfl, ?_⟩) hS ?_
            rotate_left
            · intro w hSw; (try dsimp only at hSw); go_simp; try with_reducible rfl
            try simp only [List.setIfInBounds_toArray, List.set_cons_zero, List.set_cons_succ]
            refine wpAnyH_done (by kernel_rfl) ?_ _
            simp only [Sure, Exit.then]
            clear hS
            go_wp2
            go_ret
            exact ⟨ret_i RE.out, B6.out⟩
end Go.Proofs.Ytccgbojcghbdcaa
