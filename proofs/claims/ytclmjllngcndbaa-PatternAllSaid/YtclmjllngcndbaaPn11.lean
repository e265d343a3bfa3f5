/- Chapter 38: Maximal. -/
import Derived.Test.YtclmjllngcndbaaPn10
namespace Go.Proofs.Ytclmjllngcndbaa
open Go.RowKit

theorem sum_set {l : List Int} {k : Nat} {m x : Int} (h : l[k]? = some m) : sumI (l.set k x) = sumI l - m + x := by
  induction l generalizing k with
  | nil => simp at h
  | cons y l ih =>
    cases k with
    | zero => simp at h; subst h; simp only [List.set_cons_zero, sumI]; omega
    | succ k => simp only [List.getElem?_cons_succ] at h; simp only [List.set_cons_succ, sumI, ih h]; omega
theorem dot_set {l zs : List Int} {k : Nat} {m x z : Int} (h : l[k]? = some m) (hz : zs[k]? = some z) : dot (l.set k x) zs = dot l zs - m * z + x * z := by
  induction l generalizing k zs with
  | nil => simp at h
  | cons y l ih =>
    cases zs with
    | nil => simp at hz
    | cons u zs =>
      cases k with
      | zero => simp at h hz; subst h hz; simp only [List.set_cons_zero, dot]; omega
      | succ k =>
        simp only [List.getElem?_cons_succ] at h hz
        simp only [List.set_cons_succ, dot, ih h hz]; omega
/-- One piece more. -/
theorem more_fit {W E T J : Int} {zs cs : List Int} (hr : Right W E T J zs) (hf : fitErr W E T J zs cs = 0) {k : Nat} {m z : Int} (hm : cs[k]? = some m) (hz : zs[k]? = some z) : fitErr W E T J zs (cs.set k (m + 1)) = 0 ↔ sumI cs < J ∧ z ≤ us W E - dot cs zs := by
  obtain ⟨h1, h2, h3, h4, h5, h6⟩ := fit_ok hf
  have z1 := hr.z z (List.mem_of_getElem? hz)
  have s := sum_set (x := m + 1) hm
  have d := dot_set (x := m + 1) hm hz
  rw [Int.add_mul, Int.one_mul] at d
  have m0 := h2 m (List.mem_of_getElem? hm)
  have s0 := sumI_nonneg h2
  constructor
  · intro h
    obtain ⟨_, _, _, a4, a5, _⟩ := fit_ok h
    omega
  · rintro ⟨a1, a2⟩
    have nn : ∀ n ∈ cs.set k (m + 1), 0 ≤ n := fun n hn => by
      rcases List.mem_or_eq_of_mem_set hn with h | h
      · exact h2 n h
      · omega
    unfold fitErr
    rw [if_neg (fun e => e (by rw [List.length_set]; exact h1)), if_neg (fun e => e nn), if_neg (by omega), if_neg (by omega), if_neg (by omega), if_neg (by omega)]
def lastZ (zs : List Int) : Int := zs.getD (zs.length - 1) 0
theorem last_at {W E T J : Int} {zs : List Int} (hr : Right W E T J zs) : zs[zs.length - 1]? = some (lastZ zs) ∧ ∀ z ∈ zs, lastZ zs ≤ z := by
  have hn := hr.n
  have e : zs[zs.length - 1]? = some (lastZ zs) := by
    unfold lastZ
    rw [List.getD_eq_getElem?_getD, List.getElem?_eq_getElem (by omega)]
    rfl
  refine ⟨e, fun z hz => ?_⟩
  obtain ⟨i, hi⟩ := List.mem_iff_getElem?.1 hz
  obtain ⟨h1, h2⟩ := List.getElem?_eq_some_iff.1 hi
  obtain ⟨h3, h4⟩ := List.getElem?_eq_some_iff.1 e
  by_cases hil : i = zs.length - 1
  · subst hil
    rw [hi] at e
    injection e with e
    omega
  · have := List.pairwise_iff_getElem.1 hr.o i (zs.length - 1) h1 h3 (by omega)
    rw [h2, h4] at this
    omega
def mxV (W E T J : Int) (zs cs : List Int) : Bool := if ftErr W E T J zs cs = 0 then decide (sumI cs = J) || decide (us W E - dot cs zs < lastZ zs) else false
/-- No piece can be added. -/
theorem mx_iff {W E T J : Int} {zs cs : List Int} (hr : Right W E T J zs) (hf : fitErr W E T J zs cs = 0) : (decide (sumI cs = J) || decide (us W E - dot cs zs < lastZ zs)) = true ↔ ∀ (k : Nat) (m : Int), cs[k]? = some m → fitErr W E T J zs (cs.set k (m + 1)) ≠ 0 := by
  obtain ⟨h1, h2, h3, h4, h5, h6⟩ := fit_ok hf
  obtain ⟨l1, l2⟩ := last_at hr
  have hn := hr.n
  simp only [Bool.or_eq_true, decide_eq_true_eq]
  constructor
  · intro h k m hm hfe
    have hk : k < zs.length := by rw [← h1]; exact (List.getElem?_eq_some_iff.1 hm).1
    have hz : zs[k]? = some zs[k] := List.getElem?_eq_getElem hk
    have := (more_fit hr hf hm hz).1 hfe
    have := l2 zs[k] (List.getElem_mem hk)
    omega
  · intro h
    have hk : zs.length - 1 < cs.length := by omega
    have := h (zs.length - 1) cs[zs.length - 1] (List.getElem?_eq_getElem hk)
    rw [Ne, more_fit hr hf (List.getElem?_eq_getElem hk) l1] at this
    omega
def MxPost (W E T J : Int) (zs cs : List Int) (w : World) : Ending → World → Prop := fun e w' => e = .returned (.tuple #[.bool (mxV W E T J zs cs), .int .i64 (ftErr W E T J zs cs)]) ∧ Below w.heap.size w w'
set_option linter.unusedSimpArgs false in
set_option maxRecDepth 100000 in
set_option maxHeartbeats 4000000 in
theorem maximal_any (W E T J : Int) (a a2 : Option Addr) (c c2 n n2 : Nat) (zs cs : List Int) (w : World) (r : Rds Nn w 1 a n (ints zs)) (r2 : Rds Nn w 1 a2 n2 (ints cs)) (hn : n = zs.length) (hn2 : n2 = cs.length) (hl : n ≤ maxLen) (hl2 : n2 ≤ 1000000) : Calls Try.prog 23 #[.agg #[.int .i64 W, .int .i64 E, .int .i64 T, .int .i64 J, .slice a n c], .slice a2 n2 c2] w (MxPost W E T J zs cs w) := by
  have RR := hid r
  have R2 := hid r2
  have HN2 := hid hn2
  have HN := hid hn
  clear r r2 hn hn2
  have D0 := hid (Blk.at_new w (b := w.heap.size) (t := 24) (cs := #[.int .i64 W, .int .i64 E, .int .i64 T, .int .i64 J, .slice a n c]) rfl)
  have B0 := hid ((Below.refl w.heap.size w).alloc (Nat.le_refl _) (.cells #[.int .i64 W, .int .i64 E, .int .i64 T, .int .i64 J, .slice a n c] 24))
  go_enter Try.func23, Try.ntmps23
  go_wp2_with (refine wpList_load_blk2 (t := 24) rfl rfl rfl Try.underlying24 rfl (by kernel_rfl) D0.out ?_)
  refine (check_any W E T J a c n zs _ (RR.out.below B0.out) HN.out hl).mono ?_
  rintro e w1 ⟨rfl, hb⟩
  have D1 := hid (D0.out.below hb D0.out.lt)
  have B1 := hid (B0.out.trans (hb.mono B0.out.size))
  clear hb
  by_cases hz : chkErr W E T J zs = 0
  rotate_left
  · have hz2 : (chkErr W E T J zs != 0) = true := by simpa using hz
    have R : Hid (chkErr W E T J zs = ftErr W E T J zs cs) := hid (by unfold ftErr; rw [if_pos hz])
    have RV : Hid (false = mxV W E T J zs cs) := hid (by unfold mxV; rw [← R.out, if_neg hz])
    clear hz
    go_wp2
    go_ret2
    unfold MxPost
    rw [← R.out, ← RV.out]
    exact ⟨rfl, B1.out⟩
  have HR := hid (dk_right (chk_ok hz).1)
  have R : Hid (fitErr W E T J zs cs = ftErr W E T J zs cs) := hid (by unfold ftErr; rw [if_neg (fun e => e hz)])
  rw [hz]
  clear hz
  go_wp2_with (refine wpList_load_blk2 (t := 24) rfl rfl rfl Try.underlying24 rfl (by kernel_rfl) D1.out ?_)
  refine (room_any W E T J a a2 c c2 n n2 zs cs _ (RR.out.below B1.out) (R2.out.below B1.out) HN.out HN2.out hl hl2 HR.out).mono ?_
  rintro e w2 ⟨rfl, hb⟩
  have D2 := hid (D1.out.below hb D1.out.lt)
  have B2 := hid (B1.out.trans (hb.mono B1.out.size))
  clear hb
  by_cases hf : fitErr W E T J zs cs = 0
  rotate_left
  · have hz2 : (fitErr W E T J zs cs != 0) = true := by simpa using hf
    have RV : Hid (false = mxV W E T J zs cs) := hid (by unfold mxV; rw [← R.out, if_neg hf])
    clear hf
    go_wp2
    go_ret2
    unfold MxPost
    rw [← R.out, ← RV.out]
    exact ⟨rfl, B2.out⟩
  have RP : rmP W E T J zs cs = sumI cs := by unfold rmP; rw [if_pos hf]
  have RL : rmL W E T J zs cs = us W E - dot cs zs := by unfold rmL; rw [if_pos hf]
  have RV : Hid (mxV W E T J zs cs = (decide (sumI cs = J) || decide (us W E - dot cs zs < lastZ zs))) := hid (by unfold mxV; rw [← R.out, if_pos hf])
  have FZ := hid (R.out.symm.trans hf)
  obtain ⟨l1, l2⟩ := last_at HR.out
  have n8 : 1 ≤ n ∧ n ≤ 8 := by rw [HN.out]; exact HR.out.n
  rw [← HN.out] at l1
  obtain ⟨p, o, z, rfl, _, hz1, hc1⟩ := num_at RR.out (k := n - 1) (by omega)
  rw [l1] at hz1
  injection hz1 with hz1
  obtain ⟨LZ, hLZ⟩ : ∃ LZ, lastZ zs = LZ := ⟨_, rfl⟩
  rw [hLZ] at hz1 RV
  subst hz1
  have e1 := hc1 _ B2.out
  obtain ⟨SS, hSS⟩ : ∃ SS, sumI cs = SS := ⟨_, rfl⟩
  obtain ⟨DS, hDS⟩ : ∃ DS, us W E - dot cs zs = DS := ⟨_, rfl⟩
  rw [hSS] at RP RV
  rw [hDS] at RL RV
  rw [RP, RL, hf]
  have cD := D2.out.cell
  clear RP RL l1 l2 hc1 hf hSS hDS hLZ
  by_cases hk : SS = J
  · have V : Hid (mxV W E T J zs cs = true) := hid (by rw [RV.out]; simp [hk])
    have hk2 : (SS == J) = true := by simpa using hk
    go_wp2
    go_ret2
    unfold MxPost
    rw [V.out, FZ.out]
    exact ⟨rfl, B2.out⟩
  · have V : Hid (mxV W E T J zs cs = decide (DS < LZ)) := hid (by rw [RV.out]; simp [hk])
    have hk2 : (SS == J) = false := by simpa using hk
    have hn1 : IntKind.i64.wrap ((n : Int) - 1) = ((n - 1 : Nat) : Int) := by rw [IntWalk.i64_in _ (by omega)]; omega
    go_wp2
    go_ret2
    unfold MxPost
    rw [V.out, FZ.out]
    exact ⟨rfl, B2.out⟩
set_option linter.unusedSimpArgs false in
set_option maxRecDepth 100000 in
set_option maxHeartbeats 4000000 in
theorem rmaximal_any (W E T J : Int) (a a2 : Option Addr) (c c2 n n2 : Nat) (zs cs : List Int) (w : World) (r : Rds Nn w 1 a n (ints zs)) (r2 : Rds Nn w 1 a2 n2 (ints cs)) (hn : n = zs.length) (hn2 : n2 = cs.length) (hl : n ≤ maxLen) (hl2 : n2 ≤ 1000000) : Calls Try.prog 24 #[.agg #[.int .i64 W, .int .i64 E, .int .i64 T, .int .i64 J, .slice a n c], .slice a2 n2 c2] w (MxPost W E T J zs cs w) := by
  have RR := hid r
  have R2 := hid r2
  have HN2 := hid hn2
  have HN := hid hn
  clear r r2 hn hn2
  have D0 := hid (Blk.at_new w (b := w.heap.size) (t := 24) (cs := #[.int .i64 W, .int .i64 E, .int .i64 T, .int .i64 J, .slice a n c]) rfl)
  have B0 := hid ((Below.refl w.heap.size w).alloc (Nat.le_refl _) (.cells #[.int .i64 W, .int .i64 E, .int .i64 T, .int .i64 J, .slice a n c] 24))
  go_enter Try.func24, Try.ntmps24
  go_wp2_with (refine wpList_load_blk2 (t := 24) rfl rfl rfl Try.underlying24 rfl (by kernel_rfl) D0.out ?_)
  refine (rpfits_any W E T J a a2 c c2 n n2 zs cs _ (RR.out.below B0.out) (R2.out.below B0.out) HN.out HN2.out hl hl2).mono ?_
  rintro e w1 ⟨rfl, hb⟩
  have D1 := hid (D0.out.below hb D0.out.lt)
  have B1 := hid (B0.out.trans (hb.mono B0.out.size))
  clear hb
  by_cases hz : ftErr W E T J zs cs = 0
  rotate_left
  · have hz2 : (ftErr W E T J zs cs != 0) = true := by simpa using hz
    have RV : Hid (false = mxV W E T J zs cs) := hid (by unfold mxV; rw [if_neg hz])
    clear hz
    go_wp2
    go_ret2
    unfold MxPost
    rw [← RV.out]
    exact ⟨rfl, B1.out⟩
  have HZ := hid hz
  obtain ⟨hck, hfe⟩ := ft_split hz
  have HR := hid (dk_right (chk_ok hck).1)
  have FK := hid (fit_ok hfe)
  have MI := hid (mx_iff HR.out hfe)
  have RV : Hid (mxV W E T J zs cs = (decide (sumI cs = J) || decide (us W E - dot cs zs < lastZ zs))) := hid (by unfold mxV; rw [if_pos hz])
  have n8 : 1 ≤ n ∧ n ≤ 8 := by rw [HN.out]; exact HR.out.n
  have kb := HR.out.k
  have hlen : n2 = n := by rw [HN.out, HN2.out]; exact FK.out.1
  obtain rfl : n = n2 := hlen.symm
  rw [hz]
  clear hz hck hfe
  go_wp2
  go_loopw [7] (fun i wr => ∃ k : Nat, k ≤ n ∧ i = .int .i64 k ∧ (∀ j m, j < k → cs[j]? = some m → fitErr W E T J zs (cs.set j (m + 1)) ≠ 0) ∧ Blk wr w.heap.size 24 #[.int .i64 W, .int .i64 E, .int .i64 T, .int .i64 J, .slice a n c] ∧ Below w.heap.size w wr) (fun i _ => n - (intOf i).toNat)
  case atStart => exact ⟨0, Nat.zero_le _, rfl, fun j m hj => by omega, D1.out, B1.out⟩
  case round =>
    obtain ⟨k, hk, rfl, hno, hD, hbel⟩ := hrel
    have NO := hid hno
    have DD := hid hD
    have BB := hid hbel
    clear hno hD hbel
    by_cases hlt : k < n
    · go_upto_region 8 with (at_builtin; refine wpList_app (n := 0) (m := n) (news := ints cs) (xs := []) info3 Try.underlying22 (by kernel_rfl) (by omega) (by omega) (own_empty _ 0 (Nat.zero_le _) _ _) ((R2.out.below BB.out).allocK' _) (ints_one cs) (by omega) rfl rfl rfl rfl ?_; intro v8 w8 hown hchg hnew; rw [Nat.zero_add, List.nil_append] at hown; obtain ⟨g8, c8, rfl, _, _⟩ := own_pos hown (by omega); have B8 := hid (chg_new hchg); have G8 := hid (newer_new hnew); have O8 := hid hown; clear hown hchg hnew)
      obtain ⟨p, o, m, hA, _, hm, hc⟩ := num_at (Rds.own O8.out (S := Nn) (fun _ _ => id)) hlt
      injection hA with hA
      injection hA with hA1 hA2 _
      subst hA1 hA2
      have f8 := hc _ (Below.refl _ _)
      rw [Nat.zero_add] at f8
      have fz := O8.out.frozenAt k
      have m0 := FK.out.2.1 m (List.mem_of_getElem? hm)
      have m1 : m ≤ 12 := by
        have h1 := sum_le_take FK.out.2.1 (k + 1)
        rw [sum_take hm] at h1
        have := sumI_nonneg (c := cs.take k) (fun n hn => FK.out.2.1 n (List.mem_of_mem_take hn))
        have := FK.out.2.2.2.1
        omega
      have HM := hid hm
      have OS := hid ((O8.out.stored k (.int .i64 (m + 1))).1)
      have D8 := hid (DD.out.below B8.out DD.out.lt)
      have g0 : wr.heap.size ≤ g8 := G8.out g8 rfl
      have D9 := hid (D8.out.other (a := ⟨g8, k, none⟩) (by have := DD.out.lt; simp; omega) (.int .i64 (m + 1)))
      have B9 := hid (BB.out.trans ((Below.setCell B8.out (show wr.heap.size ≤ (⟨g8, k, none⟩ : Addr).block from g0) (.int .i64 (m + 1))).mono BB.out.size))
      clear hc hm
      go_wp2_with (refine wpList_load_blk2 (t := 24) rfl rfl rfl Try.underlying24 rfl (by kernel_rfl) D9.out ?_)
      refine (rfits_any W E T J a (some ⟨g8, 0, none⟩) c c8 n n zs (cs.set k (m + 1)) _ (RR.out.below B9.out) (by have := Rds.own OS.out (S := Nn) (fun _ _ => id); rw [int_set] at this; exact this) HN.out (by rw [List.length_set]; exact HN2.out) (by omega) HR.out).mono ?_
      rintro e w9 ⟨rfl, hb⟩
      have D10 := hid (D9.out.below hb D9.out.lt)
      have B10 := hid (B9.out.trans (hb.mono B9.out.size))
      clear hb f8 fz
      by_cases hf : fitErr W E T J zs (cs.set k (m + 1)) = 0
      · have V : Hid (mxV W E T J zs cs = false) := hid (by
          rw [RV.out]
          exact Bool.eq_false_iff.2 (fun e => MI.out.1 e k m HM.out hf))
        have hf2 : (fitErr W E T J zs (cs.set k (m + 1)) == 0) = true := by simpa using hf
        clear hf
        go_wp2
        go_ret2
        unfold MxPost
        rw [V.out, HZ.out]
        exact ⟨rfl, B10.out⟩
      · have HF := hid hf
        have hf2 : (fitErr W E T J zs (cs.set k (m + 1)) == 0) = false := by simpa using hf
        clear hf
        go_wp2
        go_roundw
        case rel =>
          refine ⟨k + 1, by omega, by go_num, fun j m' hj hm' => ?_, D10.out, B10.out⟩
          by_cases hjk : j = k
          · subst hjk
            rw [HM.out] at hm'
            injection hm' with hm'
            subst hm'
            exact HF.out
          · exact NO.out j m' (by omega) hm'
        case measure => simp [intOf]; omega
    · obtain rfl : k = n := by omega
      have V : Hid (mxV W E T J zs cs = true) := hid (by
        rw [RV.out]
        exact MI.out.2 (fun j m hm => NO.out j m (by rw [HN2.out]; exact (List.getElem?_eq_some_iff.1 hm).1) hm))
      go_wp2
      go_ret2
      unfold MxPost
      rw [V.out, HZ.out]
      exact ⟨rfl, BB.out⟩
end Go.Proofs.Ytclmjllngcndbaa
