/- PatternMore: for every input the law returns true. No condition. -/
import Derived.Test.YtclmjllngcndbaaPLight
namespace Go.Proofs.Ytclmjllngcndbaa
open Go.RowKit

set_option linter.unusedSimpArgs false in
set_option maxRecDepth 100000 in
set_option maxHeartbeats 8000000 in
theorem patternMore_in (W E T J : Int) (a a2 : Option Addr) (c c2 n n2 : Nat) (zs cs : List Int) (w : World) (r : Rds Nn w 1 a n (ints zs)) (r2 : Rds Nn w 1 a2 n2 (ints cs)) (hn : n = zs.length) (hn2 : n2 = cs.length) (hl : n ≤ maxLen) (hl2 : n2 ≤ maxLen) : Calls Try.prog 9 #[.agg #[.int .i64 W, .int .i64 E, .int .i64 T, .int .i64 J, .slice a n c], .slice a2 n2 c2] w fun e w' => e = .returned (.bool true) ∧ Below w.heap.size w w' := by
  have RR := hid r
  have R2 := hid r2
  have HN2 := hid hn2
  have HN := hid hn
  clear r r2 hn hn2
  have D0 := hid (Blk.at_new w (b := w.heap.size) (t := 24) (cs := #[.int .i64 W, .int .i64 E, .int .i64 T, .int .i64 J, .slice a n c]) rfl)
  have B0 := hid ((Below.refl w.heap.size w).alloc (Nat.le_refl _) (.cells #[.int .i64 W, .int .i64 E, .int .i64 T, .int .i64 J, .slice a n c] 24))
  unfold maxLen at hl2
  go_enter Try.func9, Try.ntmps9
  go_wp2_with (refine wpList_load_blk2 (t := 24) rfl rfl rfl Try.underlying24 rfl (by kernel_rfl) D0.out ?_)
  refine (light_any W E T J a c n _ hl).mono ?_
  rintro e w1 ⟨rfl, hb⟩
  have D1 := hid (D0.out.below hb D0.out.lt)
  have B1 := hid (B0.out.trans (hb.mono B0.out.size))
  clear hb
  by_cases hf : n ≤ 20
  rotate_left
  · rw [show decide (n ≤ 20) = false by simp; omega]
    clear hf
    go_wp2_with fail
    refine (awake_any _).mono ?_
    rintro e wz ⟨rfl, hb⟩
    go_wp2
    go_ret
    exact ⟨rfl, B1.out.trans (hb.mono B1.out.size)⟩
  rw [show decide (n ≤ 20) = true by simp; omega]
  by_cases hf2 : n2 ≤ 20
  rotate_left
  · clear hf
    go_wp2_with fail
    refine (awake_any _).mono ?_
    rintro e wz ⟨rfl, hb⟩
    go_wp2
    go_ret
    exact ⟨rfl, B1.out.trans (hb.mono B1.out.size)⟩
  have cD := D1.out.cell
  go_wp2_with fail
  clear cD
  refine (pfits_any W E T J a a2 c c2 n n2 zs cs _ (RR.out.below B1.out) (R2.out.below B1.out) HN.out HN2.out hl (by omega)).mono ?_
  rintro e w2 ⟨rfl, hb⟩
  have D2 := hid (D1.out.below hb D1.out.lt)
  have B2 := hid (B1.out.trans (hb.mono B1.out.size))
  clear hb
  by_cases hz : ftErr W E T J zs cs = 0
  rotate_left
  · have hz2 : (ftErr W E T J zs cs != 0) = true := by simpa using hz
    clear hz
    go_wp2_with fail
    refine (awake_any _).mono ?_
    rintro e wz ⟨rfl, hb⟩
    go_wp2
    go_ret
    exact ⟨rfl, B2.out.trans (hb.mono B2.out.size)⟩
  have HZ := hid hz
  obtain ⟨hck, hfe⟩ := ft_split hz
  have HR := hid (dk_right (chk_ok hck).1)
  have FK := hid (fit_ok hfe)
  have MI := hid (mx_iff HR.out hfe)
  have MF := hid (fun (k : Nat) (m z : Int) (hm : cs[k]? = some m) (hz : zs[k]? = some z) => more_fit HR.out hfe hm hz)
  have FTE : Hid (∀ ds, ftErr W E T J zs ds = fitErr W E T J zs ds) := hid (fun ds => by unfold ftErr; rw [if_neg (fun e => e hck)])
  have RV : Hid (mxV W E T J zs cs = (decide (sumI cs = J) || decide (us W E - dot cs zs < lastZ zs))) := hid (by unfold mxV; rw [if_pos hz])
  have LV : Hid (lfV W E T J zs cs = us W E - dot cs zs) := hid (by unfold lfV; rw [if_pos hz])
  have n8 : 1 ≤ n ∧ n ≤ 8 := by rw [HN.out]; exact HR.out.n
  have kb := HR.out.k
  have tb := HR.out.t
  have wb := HR.out.w
  have ub := us_pos HR.out
  have hlen : n2 = n := by rw [HN.out, HN2.out]; exact FK.out.1
  obtain rfl : n = n2 := hlen.symm
  rw [hz]
  clear hz hck hfe
  go_wp2_with (refine wpList_load_blk2 (t := 24) rfl rfl rfl Try.underlying24 rfl (by kernel_rfl) D2.out ?_)
  refine (left_any W E T J a a2 c c2 n n zs cs _ (RR.out.below B2.out) (R2.out.below B2.out) HN.out HN2.out hl (by omega)).mono ?_
  rintro e w3 ⟨rfl, hb⟩
  have D3 := hid (D2.out.below hb D2.out.lt)
  have B3 := hid (B2.out.trans (hb.mono B2.out.size))
  clear hb
  rw [HZ.out, LV.out]
  go_wp2_with (refine wpList_load_blk2 (t := 24) rfl rfl rfl Try.underlying24 rfl (by kernel_rfl) D3.out ?_)
  refine (maximal_any W E T J a a2 c c2 n n zs cs _ (RR.out.below B3.out) (R2.out.below B3.out) HN.out HN2.out hl (by omega)).mono ?_
  rintro e w4 ⟨rfl, hb⟩
  have D4 := hid (D3.out.below hb D3.out.lt)
  have B4 := hid (B3.out.trans (hb.mono B3.out.size))
  clear hb
  rw [HZ.out]
  obtain ⟨DS, hDS⟩ : ∃ DS, dot cs zs = DS := ⟨_, rfl⟩
  have HDS := hid hDS
  rw [hDS]
  have lf1 : DS ≤ us W E := by have := FK.out.2.2.2.2.1; omega
  have lf2 : us W E - DS ≤ T := by have := FK.out.2.2.2.2.2; omega
  clear hDS
  have cD := D4.out.cell
  go_wp2
  go_loopw [9, 10] (fun u i wr => ∃ (k : Nat) (b : Bool), k ≤ n ∧ u = .bool b ∧ i = .int .i64 k ∧ (b = false → ∀ j m, j < k → cs[j]? = some m → fitErr W E T J zs (cs.set j (m + 1)) ≠ 0) ∧ (b = true → ∃ j m, cs[j]? = some m ∧ fitErr W E T J zs (cs.set j (m + 1)) = 0) ∧ Blk wr w.heap.size 24 #[.int .i64 W, .int .i64 E, .int .i64 T, .int .i64 J, .slice a n c] ∧ Below w.heap.size w wr) (fun _ i _ => n - (intOf i).toNat)
  case atStart => exact ⟨0, false, Nat.zero_le _, rfl, rfl, fun _ j m hj => by omega, fun h => (by cases h), D4.out, B4.out⟩
  case round =>
    obtain ⟨k, b, hk, rfl, rfl, hno, hyes, hD, hbel⟩ := hrel
    have NO := hid hno
    have YES := hid hyes
    have DD := hid hD
    have BB := hid hbel
    clear hno hyes hD hbel cD
    by_cases hlt : k < n
    · go_upto_region 12 with (at_builtin; refine wpList_app (n := 0) (m := n) (news := ints cs) (xs := []) info3 Try.underlying22 (by kernel_rfl) (by omega) (by omega) (own_empty _ 0 (Nat.zero_le _) _ _) ((R2.out.below BB.out).allocK' _) (ints_one cs) (by omega) rfl rfl rfl rfl ?_; intro v8 w8 hown hchg hnew; rw [Nat.zero_add, List.nil_append] at hown; obtain ⟨g8, c8, rfl, _, _⟩ := own_pos hown (by omega); have B8 := hid (chg_new hchg); have G8 := hid (newer_new hnew); have O8 := hid hown; clear hown hchg hnew)
      obtain ⟨p, o, m, hA, _, hm, hc⟩ := num_at (Rds.own O8.out (S := Nn) (fun _ _ => id)) hlt
      injection hA with hA
      injection hA with hA1 hA2 _
      subst hA1 hA2
      have f8 := hc _ (Below.refl _ _)
      rw [Nat.zero_add] at f8
      have fz := O8.out.frozenAt k
      have m0 := FK.out.2.1 m (List.mem_of_getElem? hm)
      have m1 : m ≤ 12 := by
        have h1 := sum_le_take FK.out.2.1 (k + 1)
        rw [sum_take hm] at h1
        have := sumI_nonneg (c := cs.take k) (fun n hn => FK.out.2.1 n (List.mem_of_mem_take hn))
        have := FK.out.2.2.2.1
        omega
      have HM := hid hm
      obtain ⟨pz, oz, z, rfl, _, hzz, hcz⟩ := num_at RR.out hlt
      have DT : Hid (dot (cs.set k (m + 1)) zs = DS + z) := hid (by
        have d := dot_set (x := m + 1) hm hzz
        rw [Int.add_mul, Int.one_mul, HDS.out] at d
        omega)
      have zb := HR.out.z z (List.mem_of_getElem? hzz)
      have CZ := hid hcz
      have OS := hid ((O8.out.stored k (.int .i64 (m + 1))).1)
      have D8 := hid (DD.out.below B8.out DD.out.lt)
      have g0 : wr.heap.size ≤ g8 := G8.out g8 rfl
      have D9 := hid (D8.out.other (a := ⟨g8, k, none⟩) (by have := DD.out.lt; simp; omega) (.int .i64 (m + 1)))
      have B9 := hid (BB.out.trans ((Below.setCell B8.out (show wr.heap.size ≤ (⟨g8, k, none⟩ : Addr).block from g0) (.int .i64 (m + 1))).mono BB.out.size))
      have RX : Hid (Rds Nn (w8.setCell ⟨g8, k, none⟩ (.int .i64 (m + 1))) 1 (some ⟨g8, 0, none⟩) n (ints (cs.set k (m + 1)))) := hid (by have := Rds.own OS.out (S := Nn) (fun _ _ => id); rw [int_set] at this; exact this)
      have HNX : Hid (n = (cs.set k (m + 1)).length) := hid (by rw [List.length_set]; exact HN2.out)
      clear hc hm hzz hcz
      go_wp2_with (refine wpList_load_blk2 (t := 24) rfl rfl rfl Try.underlying24 rfl (by kernel_rfl) D9.out ?_)
      refine (pfits_any W E T J _ (some ⟨g8, 0, none⟩) c c8 n n zs (cs.set k (m + 1)) _ (RR.out.below B9.out) RX.out HN.out HNX.out hl (by omega)).mono ?_
      rintro e w9 ⟨rfl, hb⟩
      have D10 := hid (D9.out.below hb D9.out.lt)
      have B10 := hid (B9.out.trans (hb.mono B9.out.size))
      have RX10 := hid (RX.out.below hb)
      clear hb f8 fz
      rw [FTE.out]
      by_cases hf : fitErr W E T J zs (cs.set k (m + 1)) = 0
      rotate_left
      · have HF := hid hf
        have hf2 : (fitErr W E T J zs (cs.set k (m + 1)) != 0) = true := by simpa using hf
        clear hf
        go_wp2
        go_roundw
        case rel =>
          refine ⟨k + 1, b, by omega, rfl, by go_num, fun hb j m' hj hm' => ?_, YES.out, D10.out, B10.out⟩
          by_cases hjk : j = k
          · subst hjk
            rw [HM.out] at hm'
            injection hm' with hm'
            subst hm'
            exact HF.out
          · exact NO.out hb j m' (by omega) hm'
        case measure => simp [intOf]; omega
      have HF := hid hf
      have LV2 : Hid (lfV W E T J zs (cs.set k (m + 1)) = us W E - DS - z) := hid (by unfold lfV; rw [FTE.out, if_pos hf, DT.out]; omega)
      rw [hf]
      clear hf
      go_wp2_with (refine wpList_load_blk2 (t := 24) rfl rfl rfl Try.underlying24 rfl (by kernel_rfl) D10.out ?_)
      refine (left_any W E T J _ (some ⟨g8, 0, none⟩) c c8 n n zs (cs.set k (m + 1)) _ (RR.out.below B10.out) RX10.out HN.out HNX.out hl (by omega)).mono ?_
      rintro e w10 ⟨rfl, hb⟩
      have D11 := hid (D10.out.below hb D10.out.lt)
      have B11 := hid (B10.out.trans (hb.mono B10.out.size))
      clear hb
      rw [FTE.out, HF.out, LV2.out]
      have cD := D11.out.cell
      have cZ := CZ.out _ B11.out
      have wz : IntKind.i64.wrap (us W E - DS - z) = us W E - DS - z := IntWalk.i64_in _ (by omega)
      go_wp2
      go_roundw
      case rel => exact ⟨k + 1, true, by omega, rfl, by go_num, fun h => (by cases h), fun _ => ⟨k, m, HM.out, HF.out⟩, D11.out, B11.out⟩
      case measure => simp [intOf]; omega
    · obtain rfl : k = n := by omega
      have V : Hid (mxV W E T J zs cs = !b) := hid (by
        rw [RV.out]
        cases b with
        | false => exact MI.out.2 (fun j m hm => NO.out rfl j m (by rw [HN2.out]; exact (List.getElem?_eq_some_iff.1 hm).1) hm)
        | true =>
          obtain ⟨j, m, hm, hf⟩ := YES.out rfl
          exact Bool.eq_false_iff.2 (fun e => MI.out.1 e j m hm hf))
      rw [V.out]
      clear V
      have hbb : ((!b) == (!b)) = true := by simp
      go_wp2_with (go_at_call 11; refine (awake_any _).mono ?_; rintro e v9 ⟨rfl, hb⟩)
      go_ret
      exact ⟨rfl, BB.out.trans (hb.mono BB.out.size)⟩
theorem patternMore_walk (x0 : Int) (x1 : Int) (x2 : Int) (x3 : Int) (a4 : Option Addr) (c4 : Nat) (x4 : List Int) (a5 : Option Addr) (c5 : Nat) (x5 : List Int) (w : World) (_h0 : (Lit.int .i64 x0).wf = true) (_h1 : (Lit.int .i64 x1).wf = true) (_h2 : (Lit.int .i64 x2).wf = true) (_h3 : (Lit.int .i64 x3).wf = true) (h4 : Rds Nn w 1 a4 x4.length (ints x4)) (g4 : x4.length ≤ c4 ∧ c4 ≤ maxLen ∧ (a4 = none → x4.length = 0 ∧ c4 = 0)) (_i4 : ∀ n ∈ x4, (Lit.int .i64 n).wf = true) (h5 : Rds Nn w 1 a5 x5.length (ints x5)) (g5 : x5.length ≤ c5 ∧ c5 ≤ maxLen ∧ (a5 = none → x5.length = 0 ∧ c5 = 0)) (_i5 : ∀ n ∈ x5, (Lit.int .i64 n).wf = true) :
    Calls Try.prog 9 #[.agg #[.int .i64 x0, .int .i64 x1, .int .i64 x2, .int .i64 x3, .slice a4 x4.length c4], .slice a5 x5.length c5] w fun e w' => e = .returned (.bool true) ∧ Below w.heap.size w w' := patternMore_in x0 x1 x2 x3 a4 a5 c4 c5 _ _ x4 x5 w h4 h5 rfl rfl (Nat.le_trans g4.1 g4.2.1) (Nat.le_trans g5.1 g5.2.1)
end Go.Proofs.Ytclmjllngcndbaa
