/- ChangeBegins: for every input the law returns true. No condition. -/
import Derived.Test.YtddphdkhaaolmaaCShort
import Derived.Test.YtddphdkhaaolmaaCRulesPlain
namespace Go.Proofs.Ytddphdkhaaolmaa
open Go.RowKit

def seV (S v er : Int) : Int := if er = 0 then v * S else 0
section
variable {b m : CP} {cp H M S v er sp : Int} {f t : GR}
theorem begins_no (he : er ≠ 0) : seV S v er = 0 ∧ paLen S sp 0 v er = 0 ∧ paErr S sp 0 v er = er := by
  have e : paErr S sp 0 v er = er := by unfold paErr; rw [if_pos he]
  exact ⟨by unfold seV; rw [if_neg he], by unfold paLen; rw [e, if_neg he], e⟩
theorem begins_ok (h : SSpec b m cp f t H M S v 0) (hv : 0 ≤ v ∧ v ≤ 1000000) : IntKind.i64.wrap (v * S) = seV S v 0 ∧ seV S v 0 = v * S := by
  obtain ⟨r5, r6⟩ := ss_rule h
  have m1 : v * S ≤ 1000000 * 86400 := Int.mul_le_mul hv.2 r6 (by omega) (by decide)
  have m0 : 0 ≤ v * S := Int.mul_nonneg hv.1 (by omega)
  have e : seV S v 0 = v * S := if_pos rfl
  exact ⟨by rw [e]; exact IntWalk.i64_in _ (by omega), e⟩
theorem begins_pa (h : SSpec b m cp f t H M S v 0) (hv : 0 ≤ v ∧ v ≤ 1000000) : paMass f t S sp 0 v 0 = 0 ∧ (paErr S sp 0 v 0 = 0 → IntKind.i64.wrap (seV S v 0 * sp) = paLen S sp 0 v 0) := by
  obtain ⟨r5, r6⟩ := ss_rule h
  have m0 : 0 ≤ v * S := Int.mul_nonneg hv.1 (by omega)
  refine ⟨?_, fun e => ?_⟩
  · unfold paMass
    split
    · rw [Int.mul_zero, Int.zero_mul]; decide
    · rfl
  · have e2 : paLen S sp 0 v 0 = v * S * sp := by unfold paLen; rw [if_pos e]
    rw [e2, (begins_ok h hv).2]
    unfold paErr at e
    rw [if_neg (fun e => e rfl)] at e
    split at e
    · cases e
    · rename_i h1
      split at e
      · cases e
      · rename_i h2
        have h3 : 0 ≤ sp ∧ sp ≤ 40000 := by omega
        have m3 : 0 ≤ v * S * sp := Int.mul_nonneg m0 h3.1
        exact IntWalk.i64_in _ (by omega)
end
set_option linter.unusedSimpArgs false in
set_option maxRecDepth 100000 in
set_option maxHeartbeats 16000000 in
theorem changeBegins_in (b m : CP) (cp : Int) (f t : GR) (H M S : Int) (x0 x1 x2 : Int) (w : World) (hn1 : f.rn ≤ maxLen ∧ f.nm.size ≤ maxLen) (hn2 : t.rn ≤ maxLen ∧ t.nm.size ≤ maxLen) : Calls Try.prog 9 #[.agg #[.int .i64 b.kp, .int .i64 b.ki, .int .i64 b.sh, .int .i64 b.lo, .int .i64 b.hi, .int .i64 b.rate, .int .i64 b.ga, .int .i64 b.la, .int .i64 b.de, .int .i64 m.kp, .int .i64 m.ki, .int .i64 m.sh, .int .i64 m.lo, .int .i64 m.hi, .int .i64 m.rate, .int .i64 m.ga, .int .i64 m.la, .int .i64 m.de, .int .i64 cp], .agg #[.string f.nm, .int .i64 f.bs, .int .i64 f.bt, .int .i64 f.mo, .int .i64 f.mt, .int .i64 f.ca, .slice f.ra f.rn f.rc, .int .i64 f.pr, .string t.nm, .int .i64 t.bs, .int .i64 t.bt, .int .i64 t.mo, .int .i64 t.mt, .int .i64 t.ca, .slice t.ra t.rn t.rc, .int .i64 t.pr, .int .i64 H, .int .i64 M, .int .i64 S], .agg #[.int .i64 x0, .int .i64 x1, .int .i64 x2]] w fun e w' => e = .returned (.bool true) ∧ Below w.heap.size w w' := by
  have W0 := hid (Blk.alloc (Blk.alloc (Blk.at_new w (b := w.heap.size) (t := 29) (cs := #[.int .i64 b.kp, .int .i64 b.ki, .int .i64 b.sh, .int .i64 b.lo, .int .i64 b.hi, .int .i64 b.rate, .int .i64 b.ga, .int .i64 b.la, .int .i64 b.de, .int .i64 m.kp, .int .i64 m.ki, .int .i64 m.sh, .int .i64 m.lo, .int .i64 m.hi, .int .i64 m.rate, .int .i64 m.ga, .int .i64 m.la, .int .i64 m.de, .int .i64 cp]) rfl) (.cells #[.string f.nm, .int .i64 f.bs, .int .i64 f.bt, .int .i64 f.mo, .int .i64 f.mt, .int .i64 f.ca, .slice f.ra f.rn f.rc, .int .i64 f.pr, .string t.nm, .int .i64 t.bs, .int .i64 t.bt, .int .i64 t.mo, .int .i64 t.mt, .int .i64 t.ca, .slice t.ra t.rn t.rc, .int .i64 t.pr, .int .i64 H, .int .i64 M, .int .i64 S] 36)) (.cells #[.int .i64 x0, .int .i64 x1, .int .i64 x2] 66))
  have T0 := hid (Blk.alloc (Blk.at_new (w.alloc (.cells #[.int .i64 b.kp, .int .i64 b.ki, .int .i64 b.sh, .int .i64 b.lo, .int .i64 b.hi, .int .i64 b.rate, .int .i64 b.ga, .int .i64 b.la, .int .i64 b.de, .int .i64 m.kp, .int .i64 m.ki, .int .i64 m.sh, .int .i64 m.lo, .int .i64 m.hi, .int .i64 m.rate, .int .i64 m.ga, .int .i64 m.la, .int .i64 m.de, .int .i64 cp] 29)) (b := w.heap.size + 1) (t := 36) (cs := #[.string f.nm, .int .i64 f.bs, .int .i64 f.bt, .int .i64 f.mo, .int .i64 f.mt, .int .i64 f.ca, .slice f.ra f.rn f.rc, .int .i64 f.pr, .string t.nm, .int .i64 t.bs, .int .i64 t.bt, .int .i64 t.mo, .int .i64 t.mt, .int .i64 t.ca, .slice t.ra t.rn t.rc, .int .i64 t.pr, .int .i64 H, .int .i64 M, .int .i64 S]) (by simp)) (.cells #[.int .i64 x0, .int .i64 x1, .int .i64 x2] 66))
  have X00 := hid (Blk.at_new ((w.alloc (.cells #[.int .i64 b.kp, .int .i64 b.ki, .int .i64 b.sh, .int .i64 b.lo, .int .i64 b.hi, .int .i64 b.rate, .int .i64 b.ga, .int .i64 b.la, .int .i64 b.de, .int .i64 m.kp, .int .i64 m.ki, .int .i64 m.sh, .int .i64 m.lo, .int .i64 m.hi, .int .i64 m.rate, .int .i64 m.ga, .int .i64 m.la, .int .i64 m.de, .int .i64 cp] 29)).alloc (.cells #[.string f.nm, .int .i64 f.bs, .int .i64 f.bt, .int .i64 f.mo, .int .i64 f.mt, .int .i64 f.ca, .slice f.ra f.rn f.rc, .int .i64 f.pr, .string t.nm, .int .i64 t.bs, .int .i64 t.bt, .int .i64 t.mo, .int .i64 t.mt, .int .i64 t.ca, .slice t.ra t.rn t.rc, .int .i64 t.pr, .int .i64 H, .int .i64 M, .int .i64 S] 36)) (b := w.heap.size + 1 + 1) (t := 66) (cs := #[.int .i64 x0, .int .i64 x1, .int .i64 x2]) (by simp))
  have B0 := hid (Below.alloc (Below.alloc (Below.alloc (Below.refl w.heap.size w) (Nat.le_refl _) (.cells #[.int .i64 b.kp, .int .i64 b.ki, .int .i64 b.sh, .int .i64 b.lo, .int .i64 b.hi, .int .i64 b.rate, .int .i64 b.ga, .int .i64 b.la, .int .i64 b.de, .int .i64 m.kp, .int .i64 m.ki, .int .i64 m.sh, .int .i64 m.lo, .int .i64 m.hi, .int .i64 m.rate, .int .i64 m.ga, .int .i64 m.la, .int .i64 m.de, .int .i64 cp] 29)) (by simp <;> omega) (.cells #[.string f.nm, .int .i64 f.bs, .int .i64 f.bt, .int .i64 f.mo, .int .i64 f.mt, .int .i64 f.ca, .slice f.ra f.rn f.rc, .int .i64 f.pr, .string t.nm, .int .i64 t.bs, .int .i64 t.bt, .int .i64 t.mo, .int .i64 t.mt, .int .i64 t.ca, .slice t.ra t.rn t.rc, .int .i64 t.pr, .int .i64 H, .int .i64 M, .int .i64 S] 36)) (by simp <;> omega) (.cells #[.int .i64 x0, .int .i64 x1, .int .i64 x2] 66))
  go_enter Try.func9, Try.ntmps9
  go_wp2_with (first | (refine wpList_load_blk2 (t := 29) rfl rfl rfl Try.underlying29 rfl (by kernel_rfl) W0.out ?_) | (refine wpList_load_blk2 (t := 36) rfl rfl rfl Try.underlying36 rfl (by kernel_rfl) T0.out ?_) | (refine wpList_load_part (l := #[.string f.nm, .int .i64 f.bs, .int .i64 f.bt, .int .i64 f.mo, .int .i64 f.mt, .int .i64 f.ca, .slice f.ra f.rn f.rc, .int .i64 f.pr]) (o := 0) T0.out (by intro j v hj; match j, hj with | 0, hj => (simpa using hj) | 1, hj => (simpa using hj) | 2, hj => (simpa using hj) | 3, hj => (simpa using hj) | 4, hj => (simpa using hj) | 5, hj => (simpa using hj) | 6, hj => (simpa using hj) | 7, hj => (simpa using hj) | j + 8, hj => simp at hj) Try.underlying32 rfl (by kernel_rfl) rfl rfl rfl ?_) | (refine wpList_load_part (l := #[.string t.nm, .int .i64 t.bs, .int .i64 t.bt, .int .i64 t.mo, .int .i64 t.mt, .int .i64 t.ca, .slice t.ra t.rn t.rc, .int .i64 t.pr]) (o := 8) T0.out (by intro j v hj; match j, hj with | 0, hj => (simpa using hj) | 1, hj => (simpa using hj) | 2, hj => (simpa using hj) | 3, hj => (simpa using hj) | 4, hj => (simpa using hj) | 5, hj => (simpa using hj) | 6, hj => (simpa using hj) | 7, hj => (simpa using hj) | j + 8, hj => simp at hj) Try.underlying32 rfl (by kernel_rfl) rfl rfl rfl ?_) | (refine wpList_load_part (l := #[.int .i64 H, .int .i64 M, .int .i64 S]) (o := 16) T0.out (by intro j v hj; match j, hj with | 0, hj => (simpa using hj) | 1, hj => (simpa using hj) | 2, hj => (simpa using hj) | j + 3, hj => simp at hj) Try.underlying34 rfl (by kernel_rfl) rfl rfl rfl ?_))
  refine (short_any f t H M S _ hn1 hn2).mono ?_
  rintro e w1 ⟨rfl, hb⟩
  have B1 := hid (B0.out.trans (hb.mono B0.out.size))
  have W1 := hid (W0.out.below hb W0.out.lt)
  have T1 := hid (T0.out.below hb T0.out.lt)
  have X01 := hid (X00.out.below hb X00.out.lt)
  clear hb
  obtain ⟨sh, hsh⟩ : ∃ sh, shortB f t = sh := ⟨_, rfl⟩
  rw [hsh]
  clear hsh
  cases sh with
  | false =>
    go_wp2_with fail
    refine (awake_any _).mono ?_
    rintro e wz ⟨rfl, hb⟩
    go_wp2
    go_ret
    exact ⟨rfl, B1.out.trans (hb.mono B1.out.size)⟩
  | true =>
  clear W0 T0 X00 B0
  by_cases h0 : 0 ≤ x0
  rotate_left
  · have cx := X01.out.cell
    go_wp2_with (first | (refine wpList_load_blk2 (t := 29) rfl rfl rfl Try.underlying29 rfl (by kernel_rfl) W1.out ?_) | (refine wpList_load_blk2 (t := 36) rfl rfl rfl Try.underlying36 rfl (by kernel_rfl) T1.out ?_) | (refine wpList_load_part (l := #[.string f.nm, .int .i64 f.bs, .int .i64 f.bt, .int .i64 f.mo, .int .i64 f.mt, .int .i64 f.ca, .slice f.ra f.rn f.rc, .int .i64 f.pr]) (o := 0) T1.out (by intro j v hj; match j, hj with | 0, hj => (simpa using hj) | 1, hj => (simpa using hj) | 2, hj => (simpa using hj) | 3, hj => (simpa using hj) | 4, hj => (simpa using hj) | 5, hj => (simpa using hj) | 6, hj => (simpa using hj) | 7, hj => (simpa using hj) | j + 8, hj => simp at hj) Try.underlying32 rfl (by kernel_rfl) rfl rfl rfl ?_) | (refine wpList_load_part (l := #[.string t.nm, .int .i64 t.bs, .int .i64 t.bt, .int .i64 t.mo, .int .i64 t.mt, .int .i64 t.ca, .slice t.ra t.rn t.rc, .int .i64 t.pr]) (o := 8) T1.out (by intro j v hj; match j, hj with | 0, hj => (simpa using hj) | 1, hj => (simpa using hj) | 2, hj => (simpa using hj) | 3, hj => (simpa using hj) | 4, hj => (simpa using hj) | 5, hj => (simpa using hj) | 6, hj => (simpa using hj) | 7, hj => (simpa using hj) | j + 8, hj => simp at hj) Try.underlying32 rfl (by kernel_rfl) rfl rfl rfl ?_) | (refine wpList_load_part (l := #[.int .i64 H, .int .i64 M, .int .i64 S]) (o := 16) T1.out (by intro j v hj; match j, hj with | 0, hj => (simpa using hj) | 1, hj => (simpa using hj) | 2, hj => (simpa using hj) | j + 3, hj => simp at hj) Try.underlying34 rfl (by kernel_rfl) rfl rfl rfl ?_))
    refine (steps_any b m cp f t H M S _).mono ?_
    rintro e w2 ⟨v, er, rfl, hs, hv, hb⟩
    have B2 := hid (B1.out.trans (hb.mono B1.out.size))
    have W2 := hid (W1.out.below hb W1.out.lt)
    have T2 := hid (T1.out.below hb T1.out.lt)
    have X02 := hid (X01.out.below hb X01.out.lt)
    clear hb cx
    have SS := hid hs
    have VV := hid hv
    clear hs hv
    have cx := X02.out.cell
    go_wp2_with (first | (refine wpList_load_blk2 (t := 29) rfl rfl rfl Try.underlying29 rfl (by kernel_rfl) W2.out ?_) | (refine wpList_load_blk2 (t := 36) rfl rfl rfl Try.underlying36 rfl (by kernel_rfl) T2.out ?_) | (refine wpList_load_part (l := #[.string f.nm, .int .i64 f.bs, .int .i64 f.bt, .int .i64 f.mo, .int .i64 f.mt, .int .i64 f.ca, .slice f.ra f.rn f.rc, .int .i64 f.pr]) (o := 0) T2.out (by intro j v hj; match j, hj with | 0, hj => (simpa using hj) | 1, hj => (simpa using hj) | 2, hj => (simpa using hj) | 3, hj => (simpa using hj) | 4, hj => (simpa using hj) | 5, hj => (simpa using hj) | 6, hj => (simpa using hj) | 7, hj => (simpa using hj) | j + 8, hj => simp at hj) Try.underlying32 rfl (by kernel_rfl) rfl rfl rfl ?_) | (refine wpList_load_part (l := #[.string t.nm, .int .i64 t.bs, .int .i64 t.bt, .int .i64 t.mo, .int .i64 t.mt, .int .i64 t.ca, .slice t.ra t.rn t.rc, .int .i64 t.pr]) (o := 8) T2.out (by intro j v hj; match j, hj with | 0, hj => (simpa using hj) | 1, hj => (simpa using hj) | 2, hj => (simpa using hj) | 3, hj => (simpa using hj) | 4, hj => (simpa using hj) | 5, hj => (simpa using hj) | 6, hj => (simpa using hj) | 7, hj => (simpa using hj) | j + 8, hj => simp at hj) Try.underlying32 rfl (by kernel_rfl) rfl rfl rfl ?_) | (refine wpList_load_part (l := #[.int .i64 H, .int .i64 M, .int .i64 S]) (o := 16) T2.out (by intro j v hj; match j, hj with | 0, hj => (simpa using hj) | 1, hj => (simpa using hj) | 2, hj => (simpa using hj) | j + 3, hj => simp at hj) Try.underlying34 rfl (by kernel_rfl) rfl rfl rfl ?_))
    refine (secs_any b m cp f t H M S _).mono ?_
    rintro e w3 ⟨v4, er4, rfl, hs, hv, hb⟩
    have B3 := hid (B2.out.trans (hb.mono B2.out.size))
    have W3 := hid (W2.out.below hb W2.out.lt)
    have T3 := hid (T2.out.below hb T2.out.lt)
    have X03 := hid (X02.out.below hb X02.out.lt)
    clear hb cx
    obtain ⟨rfl, rfl⟩ := steps_same SS.out hs
    clear hs hv
    rw [show (if er = 0 then v * S else 0) = seV S v er from rfl]
    obtain ⟨sc, hq⟩ : ∃ q, seV S v er = q := ⟨_, rfl⟩
    rw [hq]
    have HSC := hid hq
    clear hq
    have cx := X03.out.cell
    go_wp2_with (first | (refine wpList_load_blk2 (t := 29) rfl rfl rfl Try.underlying29 rfl (by kernel_rfl) W3.out ?_) | (refine wpList_load_blk2 (t := 36) rfl rfl rfl Try.underlying36 rfl (by kernel_rfl) T3.out ?_) | (refine wpList_load_part (l := #[.string f.nm, .int .i64 f.bs, .int .i64 f.bt, .int .i64 f.mo, .int .i64 f.mt, .int .i64 f.ca, .slice f.ra f.rn f.rc, .int .i64 f.pr]) (o := 0) T3.out (by intro j v hj; match j, hj with | 0, hj => (simpa using hj) | 1, hj => (simpa using hj) | 2, hj => (simpa using hj) | 3, hj => (simpa using hj) | 4, hj => (simpa using hj) | 5, hj => (simpa using hj) | 6, hj => (simpa using hj) | 7, hj => (simpa using hj) | j + 8, hj => simp at hj) Try.underlying32 rfl (by kernel_rfl) rfl rfl rfl ?_) | (refine wpList_load_part (l := #[.string t.nm, .int .i64 t.bs, .int .i64 t.bt, .int .i64 t.mo, .int .i64 t.mt, .int .i64 t.ca, .slice t.ra t.rn t.rc, .int .i64 t.pr]) (o := 8) T3.out (by intro j v hj; match j, hj with | 0, hj => (simpa using hj) | 1, hj => (simpa using hj) | 2, hj => (simpa using hj) | 3, hj => (simpa using hj) | 4, hj => (simpa using hj) | 5, hj => (simpa using hj) | 6, hj => (simpa using hj) | 7, hj => (simpa using hj) | j + 8, hj => simp at hj) Try.underlying32 rfl (by kernel_rfl) rfl rfl rfl ?_) | (refine wpList_load_part (l := #[.int .i64 H, .int .i64 M, .int .i64 S]) (o := 16) T3.out (by intro j v hj; match j, hj with | 0, hj => (simpa using hj) | 1, hj => (simpa using hj) | 2, hj => (simpa using hj) | j + 3, hj => simp at hj) Try.underlying34 rfl (by kernel_rfl) rfl rfl rfl ?_))
    refine (paper_any b m cp f t H M S _ x2 0).mono ?_
    rintro e w4 ⟨v5, er5, rfl, hs, hv, hb⟩
    have B4 := hid (B3.out.trans (hb.mono B3.out.size))
    have W4 := hid (W3.out.below hb W3.out.lt)
    have T4 := hid (T3.out.below hb T3.out.lt)
    have X04 := hid (X03.out.below hb X03.out.lt)
    clear hb cx
    obtain ⟨rfl, rfl⟩ := steps_same SS.out hs
    clear hs hv
    obtain ⟨P1, hq⟩ : ∃ q, paLen S x2 0 v er = q := ⟨_, rfl⟩
    rw [hq]
    have HP1 := hid hq
    clear hq
    obtain ⟨P2, hq⟩ : ∃ q, paMass f t S x2 0 v er = q := ⟨_, rfl⟩
    rw [hq]
    have HP2 := hid hq
    clear hq
    obtain ⟨P3, hq⟩ : ∃ q, paErr S x2 0 v er = q := ⟨_, rfl⟩
    rw [hq]
    have HP3 := hid hq
    clear hq
    by_cases he : er = 0
    rotate_left
    · obtain ⟨e1, e2, e3⟩ := begins_no (S := S) (sp := x2) (v := v) he
      obtain rfl : 0 = sc := e1.symm.trans HSC.out
      obtain rfl : 0 = P1 := e2.symm.trans HP1.out
      obtain rfl : er = P3 := e3.symm.trans HP3.out
      clear HSC HP1 HP2 HP3 e1 e2 e3 SS VV
      have hz2 : (er != 0) = true := by simpa using he
      clear he
      go_wp2_with fail
      refine (awake_any _).mono ?_
      rintro e wz ⟨rfl, hb⟩
      go_wp2
      go_ret
      exact ⟨rfl, B4.out.trans (hb.mono B4.out.size)⟩
    subst he
    obtain ⟨e1, e2⟩ := begins_ok SS.out VV.out
    obtain ⟨e3, e4⟩ := begins_pa (f := f) (t := t) SS.out VV.out (sp := x2)
    rw [HSC.out] at e1 e2
    obtain rfl : 0 = P2 := e3.symm.trans HP2.out
    rw [HP3.out, HP1.out, HSC.out] at e4
    have E4 := hid e4
    clear HSC HP1 HP2 HP3 e3 SS VV e4 e2
    have cT := T4.out.cell
    have cX := X04.out.cell
    by_cases h3 : P3 = 0
    · have E5 := E4.out h3
      clear E4
      go_wp2_with fail
      refine (awake_any _).mono ?_
      rintro e wz ⟨rfl, hb⟩
      go_wp2
      go_ret
      exact ⟨rfl, B4.out.trans (hb.mono B4.out.size)⟩
    · have hz3 : (P3 != 0) = true := by simpa using h3
      clear h3 E4
      go_wp2_with fail
      refine (awake_any _).mono ?_
      rintro e wz ⟨rfl, hb⟩
      go_wp2
      go_ret
      exact ⟨rfl, B4.out.trans (hb.mono B4.out.size)⟩
  by_cases h1 : x0 ≤ x1
  rotate_left
  · have cx := X01.out.cell
    go_wp2_with (first | (refine wpList_load_blk2 (t := 29) rfl rfl rfl Try.underlying29 rfl (by kernel_rfl) W1.out ?_) | (refine wpList_load_blk2 (t := 36) rfl rfl rfl Try.underlying36 rfl (by kernel_rfl) T1.out ?_) | (refine wpList_load_part (l := #[.string f.nm, .int .i64 f.bs, .int .i64 f.bt, .int .i64 f.mo, .int .i64 f.mt, .int .i64 f.ca, .slice f.ra f.rn f.rc, .int .i64 f.pr]) (o := 0) T1.out (by intro j v hj; match j, hj with | 0, hj => (simpa using hj) | 1, hj => (simpa using hj) | 2, hj => (simpa using hj) | 3, hj => (simpa using hj) | 4, hj => (simpa using hj) | 5, hj => (simpa using hj) | 6, hj => (simpa using hj) | 7, hj => (simpa using hj) | j + 8, hj => simp at hj) Try.underlying32 rfl (by kernel_rfl) rfl rfl rfl ?_) | (refine wpList_load_part (l := #[.string t.nm, .int .i64 t.bs, .int .i64 t.bt, .int .i64 t.mo, .int .i64 t.mt, .int .i64 t.ca, .slice t.ra t.rn t.rc, .int .i64 t.pr]) (o := 8) T1.out (by intro j v hj; match j, hj with | 0, hj => (simpa using hj) | 1, hj => (simpa using hj) | 2, hj => (simpa using hj) | 3, hj => (simpa using hj) | 4, hj => (simpa using hj) | 5, hj => (simpa using hj) | 6, hj => (simpa using hj) | 7, hj => (simpa using hj) | j + 8, hj => simp at hj) Try.underlying32 rfl (by kernel_rfl) rfl rfl rfl ?_) | (refine wpList_load_part (l := #[.int .i64 H, .int .i64 M, .int .i64 S]) (o := 16) T1.out (by intro j v hj; match j, hj with | 0, hj => (simpa using hj) | 1, hj => (simpa using hj) | 2, hj => (simpa using hj) | j + 3, hj => simp at hj) Try.underlying34 rfl (by kernel_rfl) rfl rfl rfl ?_))
    refine (steps_any b m cp f t H M S _).mono ?_
    rintro e w2 ⟨v, er, rfl, hs, hv, hb⟩
    have B2 := hid (B1.out.trans (hb.mono B1.out.size))
    have W2 := hid (W1.out.below hb W1.out.lt)
    have T2 := hid (T1.out.below hb T1.out.lt)
    have X02 := hid (X01.out.below hb X01.out.lt)
    clear hb cx
    have SS := hid hs
    have VV := hid hv
    clear hs hv
    have cx := X02.out.cell
    go_wp2_with (first | (refine wpList_load_blk2 (t := 29) rfl rfl rfl Try.underlying29 rfl (by kernel_rfl) W2.out ?_) | (refine wpList_load_blk2 (t := 36) rfl rfl rfl Try.underlying36 rfl (by kernel_rfl) T2.out ?_) | (refine wpList_load_part (l := #[.string f.nm, .int .i64 f.bs, .int .i64 f.bt, .int .i64 f.mo, .int .i64 f.mt, .int .i64 f.ca, .slice f.ra f.rn f.rc, .int .i64 f.pr]) (o := 0) T2.out (by intro j v hj; match j, hj with | 0, hj => (simpa using hj) | 1, hj => (simpa using hj) | 2, hj => (simpa using hj) | 3, hj => (simpa using hj) | 4, hj => (simpa using hj) | 5, hj => (simpa using hj) | 6, hj => (simpa using hj) | 7, hj => (simpa using hj) | j + 8, hj => simp at hj) Try.underlying32 rfl (by kernel_rfl) rfl rfl rfl ?_) | (refine wpList_load_part (l := #[.string t.nm, .int .i64 t.bs, .int .i64 t.bt, .int .i64 t.mo, .int .i64 t.mt, .int .i64 t.ca, .slice t.ra t.rn t.rc, .int .i64 t.pr]) (o := 8) T2.out (by intro j v hj; match j, hj with | 0, hj => (simpa using hj) | 1, hj => (simpa using hj) | 2, hj => (simpa using hj) | 3, hj => (simpa using hj) | 4, hj => (simpa using hj) | 5, hj => (simpa using hj) | 6, hj => (simpa using hj) | 7, hj => (simpa using hj) | j + 8, hj => simp at hj) Try.underlying32 rfl (by kernel_rfl) rfl rfl rfl ?_) | (refine wpList_load_part (l := #[.int .i64 H, .int .i64 M, .int .i64 S]) (o := 16) T2.out (by intro j v hj; match j, hj with | 0, hj => (simpa using hj) | 1, hj => (simpa using hj) | 2, hj => (simpa using hj) | j + 3, hj => simp at hj) Try.underlying34 rfl (by kernel_rfl) rfl rfl rfl ?_))
    refine (secs_any b m cp f t H M S _).mono ?_
    rintro e w3 ⟨v4, er4, rfl, hs, hv, hb⟩
    have B3 := hid (B2.out.trans (hb.mono B2.out.size))
    have W3 := hid (W2.out.below hb W2.out.lt)
    have T3 := hid (T2.out.below hb T2.out.lt)
    have X03 := hid (X02.out.below hb X02.out.lt)
    clear hb cx
    obtain ⟨rfl, rfl⟩ := steps_same SS.out hs
    clear hs hv
    rw [show (if er = 0 then v * S else 0) = seV S v er from rfl]
    obtain ⟨sc, hq⟩ : ∃ q, seV S v er = q := ⟨_, rfl⟩
    rw [hq]
    have HSC := hid hq
    clear hq
    have cx := X03.out.cell
    go_wp2_with (first | (refine wpList_load_blk2 (t := 29) rfl rfl rfl Try.underlying29 rfl (by kernel_rfl) W3.out ?_) | (refine wpList_load_blk2 (t := 36) rfl rfl rfl Try.underlying36 rfl (by kernel_rfl) T3.out ?_) | (refine wpList_load_part (l := #[.string f.nm, .int .i64 f.bs, .int .i64 f.bt, .int .i64 f.mo, .int .i64 f.mt, .int .i64 f.ca, .slice f.ra f.rn f.rc, .int .i64 f.pr]) (o := 0) T3.out (by intro j v hj; match j, hj with | 0, hj => (simpa using hj) | 1, hj => (simpa using hj) | 2, hj => (simpa using hj) | 3, hj => (simpa using hj) | 4, hj => (simpa using hj) | 5, hj => (simpa using hj) | 6, hj => (simpa using hj) | 7, hj => (simpa using hj) | j + 8, hj => simp at hj) Try.underlying32 rfl (by kernel_rfl) rfl rfl rfl ?_) | (refine wpList_load_part (l := #[.string t.nm, .int .i64 t.bs, .int .i64 t.bt, .int .i64 t.mo, .int .i64 t.mt, .int .i64 t.ca, .slice t.ra t.rn t.rc, .int .i64 t.pr]) (o := 8) T3.out (by intro j v hj; match j, hj with | 0, hj => (simpa using hj) | 1, hj => (simpa using hj) | 2, hj => (simpa using hj) | 3, hj => (simpa using hj) | 4, hj => (simpa using hj) | 5, hj => (simpa using hj) | 6, hj => (simpa using hj) | 7, hj => (simpa using hj) | j + 8, hj => simp at hj) Try.underlying32 rfl (by kernel_rfl) rfl rfl rfl ?_) | (refine wpList_load_part (l := #[.int .i64 H, .int .i64 M, .int .i64 S]) (o := 16) T3.out (by intro j v hj; match j, hj with | 0, hj => (simpa using hj) | 1, hj => (simpa using hj) | 2, hj => (simpa using hj) | j + 3, hj => simp at hj) Try.underlying34 rfl (by kernel_rfl) rfl rfl rfl ?_))
    refine (paper_any b m cp f t H M S _ x2 0).mono ?_
    rintro e w4 ⟨v5, er5, rfl, hs, hv, hb⟩
    have B4 := hid (B3.out.trans (hb.mono B3.out.size))
    have W4 := hid (W3.out.below hb W3.out.lt)
    have T4 := hid (T3.out.below hb T3.out.lt)
    have X04 := hid (X03.out.below hb X03.out.lt)
    clear hb cx
    obtain ⟨rfl, rfl⟩ := steps_same SS.out hs
    clear hs hv
    obtain ⟨P1, hq⟩ : ∃ q, paLen S x2 0 v er = q := ⟨_, rfl⟩
    rw [hq]
    have HP1 := hid hq
    clear hq
    obtain ⟨P2, hq⟩ : ∃ q, paMass f t S x2 0 v er = q := ⟨_, rfl⟩
    rw [hq]
    have HP2 := hid hq
    clear hq
    obtain ⟨P3, hq⟩ : ∃ q, paErr S x2 0 v er = q := ⟨_, rfl⟩
    rw [hq]
    have HP3 := hid hq
    clear hq
    by_cases he : er = 0
    rotate_left
    · obtain ⟨e1, e2, e3⟩ := begins_no (S := S) (sp := x2) (v := v) he
      obtain rfl : 0 = sc := e1.symm.trans HSC.out
      obtain rfl : 0 = P1 := e2.symm.trans HP1.out
      obtain rfl : er = P3 := e3.symm.trans HP3.out
      clear HSC HP1 HP2 HP3 e1 e2 e3 SS VV
      have hz2 : (er != 0) = true := by simpa using he
      clear he
      go_wp2_with fail
      refine (awake_any _).mono ?_
      rintro e wz ⟨rfl, hb⟩
      go_wp2
      go_ret
      exact ⟨rfl, B4.out.trans (hb.mono B4.out.size)⟩
    subst he
    obtain ⟨e1, e2⟩ := begins_ok SS.out VV.out
    obtain ⟨e3, e4⟩ := begins_pa (f := f) (t := t) SS.out VV.out (sp := x2)
    rw [HSC.out] at e1 e2
    obtain rfl : 0 = P2 := e3.symm.trans HP2.out
    rw [HP3.out, HP1.out, HSC.out] at e4
    have E4 := hid e4
    clear HSC HP1 HP2 HP3 e3 SS VV e4 e2
    have cT := T4.out.cell
    have cX := X04.out.cell
    by_cases h3 : P3 = 0
    · have E5 := E4.out h3
      clear E4
      go_wp2_with fail
      refine (awake_any _).mono ?_
      rintro e wz ⟨rfl, hb⟩
      go_wp2
      go_ret
      exact ⟨rfl, B4.out.trans (hb.mono B4.out.size)⟩
    · have hz3 : (P3 != 0) = true := by simpa using h3
      clear h3 E4
      go_wp2_with fail
      refine (awake_any _).mono ?_
      rintro e wz ⟨rfl, hb⟩
      go_wp2
      go_ret
      exact ⟨rfl, B4.out.trans (hb.mono B4.out.size)⟩
  have cx := X01.out.cell
  go_wp2_with (first | (refine wpList_load_blk2 (t := 29) rfl rfl rfl Try.underlying29 rfl (by kernel_rfl) W1.out ?_) | (refine wpList_load_blk2 (t := 36) rfl rfl rfl Try.underlying36 rfl (by kernel_rfl) T1.out ?_) | (refine wpList_load_part (l := #[.string f.nm, .int .i64 f.bs, .int .i64 f.bt, .int .i64 f.mo, .int .i64 f.mt, .int .i64 f.ca, .slice f.ra f.rn f.rc, .int .i64 f.pr]) (o := 0) T1.out (by intro j v hj; match j, hj with | 0, hj => (simpa using hj) | 1, hj => (simpa using hj) | 2, hj => (simpa using hj) | 3, hj => (simpa using hj) | 4, hj => (simpa using hj) | 5, hj => (simpa using hj) | 6, hj => (simpa using hj) | 7, hj => (simpa using hj) | j + 8, hj => simp at hj) Try.underlying32 rfl (by kernel_rfl) rfl rfl rfl ?_) | (refine wpList_load_part (l := #[.string t.nm, .int .i64 t.bs, .int .i64 t.bt, .int .i64 t.mo, .int .i64 t.mt, .int .i64 t.ca, .slice t.ra t.rn t.rc, .int .i64 t.pr]) (o := 8) T1.out (by intro j v hj; match j, hj with | 0, hj => (simpa using hj) | 1, hj => (simpa using hj) | 2, hj => (simpa using hj) | 3, hj => (simpa using hj) | 4, hj => (simpa using hj) | 5, hj => (simpa using hj) | 6, hj => (simpa using hj) | 7, hj => (simpa using hj) | j + 8, hj => simp at hj) Try.underlying32 rfl (by kernel_rfl) rfl rfl rfl ?_) | (refine wpList_load_part (l := #[.int .i64 H, .int .i64 M, .int .i64 S]) (o := 16) T1.out (by intro j v hj; match j, hj with | 0, hj => (simpa using hj) | 1, hj => (simpa using hj) | 2, hj => (simpa using hj) | j + 3, hj => simp at hj) Try.underlying34 rfl (by kernel_rfl) rfl rfl rfl ?_))
  refine (path_any b m cp f t x0 _).mono ?_
  rintro e w2 ⟨A1, c1, er1, l1, rfl, hs1, hr1, ht1, ⟨hc1, hl1⟩, hb⟩
  have B2 := hid (B1.out.trans (hb.mono B1.out.size))
  have W2 := hid (W1.out.below hb W1.out.lt)
  have T2 := hid (T1.out.below hb T1.out.lt)
  have X02 := hid (X01.out.below hb X01.out.lt)
  have PA := hid hs1
  have RA0 := hid hr1
  have CC1 := hid hc1
  clear hb hs1 hr1 ht1 hl1 hc1 cx
  have cx := X02.out.cell
  go_wp2_with (first | (refine wpList_load_blk2 (t := 29) rfl rfl rfl Try.underlying29 rfl (by kernel_rfl) W2.out ?_) | (refine wpList_load_blk2 (t := 36) rfl rfl rfl Try.underlying36 rfl (by kernel_rfl) T2.out ?_) | (refine wpList_load_part (l := #[.string f.nm, .int .i64 f.bs, .int .i64 f.bt, .int .i64 f.mo, .int .i64 f.mt, .int .i64 f.ca, .slice f.ra f.rn f.rc, .int .i64 f.pr]) (o := 0) T2.out (by intro j v hj; match j, hj with | 0, hj => (simpa using hj) | 1, hj => (simpa using hj) | 2, hj => (simpa using hj) | 3, hj => (simpa using hj) | 4, hj => (simpa using hj) | 5, hj => (simpa using hj) | 6, hj => (simpa using hj) | 7, hj => (simpa using hj) | j + 8, hj => simp at hj) Try.underlying32 rfl (by kernel_rfl) rfl rfl rfl ?_) | (refine wpList_load_part (l := #[.string t.nm, .int .i64 t.bs, .int .i64 t.bt, .int .i64 t.mo, .int .i64 t.mt, .int .i64 t.ca, .slice t.ra t.rn t.rc, .int .i64 t.pr]) (o := 8) T2.out (by intro j v hj; match j, hj with | 0, hj => (simpa using hj) | 1, hj => (simpa using hj) | 2, hj => (simpa using hj) | 3, hj => (simpa using hj) | 4, hj => (simpa using hj) | 5, hj => (simpa using hj) | 6, hj => (simpa using hj) | 7, hj => (simpa using hj) | j + 8, hj => simp at hj) Try.underlying32 rfl (by kernel_rfl) rfl rfl rfl ?_) | (refine wpList_load_part (l := #[.int .i64 H, .int .i64 M, .int .i64 S]) (o := 16) T2.out (by intro j v hj; match j, hj with | 0, hj => (simpa using hj) | 1, hj => (simpa using hj) | 2, hj => (simpa using hj) | j + 3, hj => simp at hj) Try.underlying34 rfl (by kernel_rfl) rfl rfl rfl ?_))
  refine (path_any b m cp f t x1 _).mono ?_
  rintro e w3 ⟨A2, c2, er2, l2, rfl, hs2, hr2, ht2, ⟨hc2, hl2⟩, hb⟩
  have B3 := hid (B2.out.trans (hb.mono B2.out.size))
  have W3 := hid (W2.out.below hb W2.out.lt)
  have T3 := hid (T2.out.below hb T2.out.lt)
  have X03 := hid (X02.out.below hb X02.out.lt)
  have PB := hid hs2
  have RA := hid (RA0.out.below hb)
  have RB := hid hr2
  have TB := hid ht2
  have LB := hid hl2
  have CC2 := hid hc2
  clear hb hs2 hr2 ht2 hl2 hc2 cx RA0 W1 T1 X01 W2 T2 X02
  by_cases he2 : er2 = 0
  rotate_left
  · have hz : (er2 == 0) = false := by simpa using he2
    clear he2 PA PB RA RB TB LB CC1 CC2
    have cx := X03.out.cell
    go_wp2_with (first | (refine wpList_load_blk2 (t := 29) rfl rfl rfl Try.underlying29 rfl (by kernel_rfl) W3.out ?_) | (refine wpList_load_blk2 (t := 36) rfl rfl rfl Try.underlying36 rfl (by kernel_rfl) T3.out ?_) | (refine wpList_load_part (l := #[.string f.nm, .int .i64 f.bs, .int .i64 f.bt, .int .i64 f.mo, .int .i64 f.mt, .int .i64 f.ca, .slice f.ra f.rn f.rc, .int .i64 f.pr]) (o := 0) T3.out (by intro j v hj; match j, hj with | 0, hj => (simpa using hj) | 1, hj => (simpa using hj) | 2, hj => (simpa using hj) | 3, hj => (simpa using hj) | 4, hj => (simpa using hj) | 5, hj => (simpa using hj) | 6, hj => (simpa using hj) | 7, hj => (simpa using hj) | j + 8, hj => simp at hj) Try.underlying32 rfl (by kernel_rfl) rfl rfl rfl ?_) | (refine wpList_load_part (l := #[.string t.nm, .int .i64 t.bs, .int .i64 t.bt, .int .i64 t.mo, .int .i64 t.mt, .int .i64 t.ca, .slice t.ra t.rn t.rc, .int .i64 t.pr]) (o := 8) T3.out (by intro j v hj; match j, hj with | 0, hj => (simpa using hj) | 1, hj => (simpa using hj) | 2, hj => (simpa using hj) | 3, hj => (simpa using hj) | 4, hj => (simpa using hj) | 5, hj => (simpa using hj) | 6, hj => (simpa using hj) | 7, hj => (simpa using hj) | j + 8, hj => simp at hj) Try.underlying32 rfl (by kernel_rfl) rfl rfl rfl ?_) | (refine wpList_load_part (l := #[.int .i64 H, .int .i64 M, .int .i64 S]) (o := 16) T3.out (by intro j v hj; match j, hj with | 0, hj => (simpa using hj) | 1, hj => (simpa using hj) | 2, hj => (simpa using hj) | j + 3, hj => simp at hj) Try.underlying34 rfl (by kernel_rfl) rfl rfl rfl ?_))
    refine (steps_any b m cp f t H M S _).mono ?_
    rintro e w4 ⟨v, er, rfl, hs, hv, hb⟩
    have B4 := hid (B3.out.trans (hb.mono B3.out.size))
    have W4 := hid (W3.out.below hb W3.out.lt)
    have T4 := hid (T3.out.below hb T3.out.lt)
    have X04 := hid (X03.out.below hb X03.out.lt)
    clear hb cx
    have SS := hid hs
    have VV := hid hv
    clear hs hv
    have cx := X04.out.cell
    go_wp2_with (first | (refine wpList_load_blk2 (t := 29) rfl rfl rfl Try.underlying29 rfl (by kernel_rfl) W4.out ?_) | (refine wpList_load_blk2 (t := 36) rfl rfl rfl Try.underlying36 rfl (by kernel_rfl) T4.out ?_) | (refine wpList_load_part (l := #[.string f.nm, .int .i64 f.bs, .int .i64 f.bt, .int .i64 f.mo, .int .i64 f.mt, .int .i64 f.ca, .slice f.ra f.rn f.rc, .int .i64 f.pr]) (o := 0) T4.out (by intro j v hj; match j, hj with | 0, hj => (simpa using hj) | 1, hj => (simpa using hj) | 2, hj => (simpa using hj) | 3, hj => (simpa using hj) | 4, hj => (simpa using hj) | 5, hj => (simpa using hj) | 6, hj => (simpa using hj) | 7, hj => (simpa using hj) | j + 8, hj => simp at hj) Try.underlying32 rfl (by kernel_rfl) rfl rfl rfl ?_) | (refine wpList_load_part (l := #[.string t.nm, .int .i64 t.bs, .int .i64 t.bt, .int .i64 t.mo, .int .i64 t.mt, .int .i64 t.ca, .slice t.ra t.rn t.rc, .int .i64 t.pr]) (o := 8) T4.out (by intro j v hj; match j, hj with | 0, hj => (simpa using hj) | 1, hj => (simpa using hj) | 2, hj => (simpa using hj) | 3, hj => (simpa using hj) | 4, hj => (simpa using hj) | 5, hj => (simpa using hj) | 6, hj => (simpa using hj) | 7, hj => (simpa using hj) | j + 8, hj => simp at hj) Try.underlying32 rfl (by kernel_rfl) rfl rfl rfl ?_) | (refine wpList_load_part (l := #[.int .i64 H, .int .i64 M, .int .i64 S]) (o := 16) T4.out (by intro j v hj; match j, hj with | 0, hj => (simpa using hj) | 1, hj => (simpa using hj) | 2, hj => (simpa using hj) | j + 3, hj => simp at hj) Try.underlying34 rfl (by kernel_rfl) rfl rfl rfl ?_))
    refine (secs_any b m cp f t H M S _).mono ?_
    rintro e w5 ⟨v4, er4, rfl, hs, hv, hb⟩
    have B5 := hid (B4.out.trans (hb.mono B4.out.size))
    have W5 := hid (W4.out.below hb W4.out.lt)
    have T5 := hid (T4.out.below hb T4.out.lt)
    have X05 := hid (X04.out.below hb X04.out.lt)
    clear hb cx
    obtain ⟨rfl, rfl⟩ := steps_same SS.out hs
    clear hs hv
    rw [show (if er = 0 then v * S else 0) = seV S v er from rfl]
    obtain ⟨sc, hq⟩ : ∃ q, seV S v er = q := ⟨_, rfl⟩
    rw [hq]
    have HSC := hid hq
    clear hq
    have cx := X05.out.cell
    go_wp2_with (first | (refine wpList_load_blk2 (t := 29) rfl rfl rfl Try.underlying29 rfl (by kernel_rfl) W5.out ?_) | (refine wpList_load_blk2 (t := 36) rfl rfl rfl Try.underlying36 rfl (by kernel_rfl) T5.out ?_) | (refine wpList_load_part (l := #[.string f.nm, .int .i64 f.bs, .int .i64 f.bt, .int .i64 f.mo, .int .i64 f.mt, .int .i64 f.ca, .slice f.ra f.rn f.rc, .int .i64 f.pr]) (o := 0) T5.out (by intro j v hj; match j, hj with | 0, hj => (simpa using hj) | 1, hj => (simpa using hj) | 2, hj => (simpa using hj) | 3, hj => (simpa using hj) | 4, hj => (simpa using hj) | 5, hj => (simpa using hj) | 6, hj => (simpa using hj) | 7, hj => (simpa using hj) | j + 8, hj => simp at hj) Try.underlying32 rfl (by kernel_rfl) rfl rfl rfl ?_) | (refine wpList_load_part (l := #[.string t.nm, .int .i64 t.bs, .int .i64 t.bt, .int .i64 t.mo, .int .i64 t.mt, .int .i64 t.ca, .slice t.ra t.rn t.rc, .int .i64 t.pr]) (o := 8) T5.out (by intro j v hj; match j, hj with | 0, hj => (simpa using hj) | 1, hj => (simpa using hj) | 2, hj => (simpa using hj) | 3, hj => (simpa using hj) | 4, hj => (simpa using hj) | 5, hj => (simpa using hj) | 6, hj => (simpa using hj) | 7, hj => (simpa using hj) | j + 8, hj => simp at hj) Try.underlying32 rfl (by kernel_rfl) rfl rfl rfl ?_) | (refine wpList_load_part (l := #[.int .i64 H, .int .i64 M, .int .i64 S]) (o := 16) T5.out (by intro j v hj; match j, hj with | 0, hj => (simpa using hj) | 1, hj => (simpa using hj) | 2, hj => (simpa using hj) | j + 3, hj => simp at hj) Try.underlying34 rfl (by kernel_rfl) rfl rfl rfl ?_))
    refine (paper_any b m cp f t H M S _ x2 0).mono ?_
    rintro e w6 ⟨v5, er5, rfl, hs, hv, hb⟩
    have B6 := hid (B5.out.trans (hb.mono B5.out.size))
    have W6 := hid (W5.out.below hb W5.out.lt)
    have T6 := hid (T5.out.below hb T5.out.lt)
    have X06 := hid (X05.out.below hb X05.out.lt)
    clear hb cx
    obtain ⟨rfl, rfl⟩ := steps_same SS.out hs
    clear hs hv
    obtain ⟨P1, hq⟩ : ∃ q, paLen S x2 0 v er = q := ⟨_, rfl⟩
    rw [hq]
    have HP1 := hid hq
    clear hq
    obtain ⟨P2, hq⟩ : ∃ q, paMass f t S x2 0 v er = q := ⟨_, rfl⟩
    rw [hq]
    have HP2 := hid hq
    clear hq
    obtain ⟨P3, hq⟩ : ∃ q, paErr S x2 0 v er = q := ⟨_, rfl⟩
    rw [hq]
    have HP3 := hid hq
    clear hq
    by_cases he : er = 0
    rotate_left
    · obtain ⟨e1, e2, e3⟩ := begins_no (S := S) (sp := x2) (v := v) he
      obtain rfl : 0 = sc := e1.symm.trans HSC.out
      obtain rfl : 0 = P1 := e2.symm.trans HP1.out
      obtain rfl : er = P3 := e3.symm.trans HP3.out
      clear HSC HP1 HP2 HP3 e1 e2 e3 SS VV
      have hz2 : (er != 0) = true := by simpa using he
      clear he
      go_wp2_with fail
      refine (awake_any _).mono ?_
      rintro e wz ⟨rfl, hb⟩
      go_wp2
      go_ret
      exact ⟨rfl, B6.out.trans (hb.mono B6.out.size)⟩
    subst he
    obtain ⟨e1, e2⟩ := begins_ok SS.out VV.out
    obtain ⟨e3, e4⟩ := begins_pa (f := f) (t := t) SS.out VV.out (sp := x2)
    rw [HSC.out] at e1 e2
    obtain rfl : 0 = P2 := e3.symm.trans HP2.out
    rw [HP3.out, HP1.out, HSC.out] at e4
    have E4 := hid e4
    clear HSC HP1 HP2 HP3 e3 SS VV e4 e2
    have cT := T6.out.cell
    have cX := X06.out.cell
    by_cases h3 : P3 = 0
    · have E5 := E4.out h3
      clear E4
      go_wp2_with fail
      refine (awake_any _).mono ?_
      rintro e wz ⟨rfl, hb⟩
      go_wp2
      go_ret
      exact ⟨rfl, B6.out.trans (hb.mono B6.out.size)⟩
    · have hz3 : (P3 != 0) = true := by simpa using h3
      clear h3 E4
      go_wp2_with fail
      refine (awake_any _).mono ?_
      rintro e wz ⟨rfl, hb⟩
      go_wp2
      go_ret
      exact ⟨rfl, B6.out.trans (hb.mono B6.out.size)⟩
  subst he2
  obtain ⟨rfl, p2, p3, p4⟩ := path_take PA.out PB.out h0 h1
  clear PA PB
  obtain ⟨K, rfl⟩ : ∃ K : Nat, x0 = K := ⟨x0.toNat, by omega⟩
  obtain ⟨K2, rfl⟩ : ∃ K : Nat, x1 = K := ⟨x1.toNat, by omega⟩
  rw [Int.toNat_natCast] at p2 p3 p4
  have hk : K ≤ K2 := by omega
  have hl : K2 ≤ 1000000 := by have := LB.out; omega
  have hcc : K2 ≤ c2 := by have := CC2.out; omega
  have hkc : K ≤ c2 := by omega
  clear LB CC2
  have P3 := hid p3
  rw [p3] at RA ⊢
  rw [p4] at RB ⊢
  subst p2
  have RT := hid (Rds.rowsCut RB.out TB.out (k := K) hk)
  have TT := hid (take_two TB.out K)
  clear p3 p4 RB TB CC1
  have cx := X03.out.cell
  go_wp2_with fail
  rw [show (min (K : Int) (K2 : Int)).toNat = K by omega]
  refine (same2_any _ _ _ _ _ _ (l2.take K) (l2.take K) _ RA.out RT.out TT.out TT.out P3.out.symm P3.out.symm (by omega)).mono ?_
  rintro e w4 ⟨rfl, hb⟩
  rw [decide_eq_true (rfl : l2.take K = l2.take K)]
  have B4 := hid (B3.out.trans (hb.mono B3.out.size))
  have W4 := hid (W3.out.below hb W3.out.lt)
  have T4 := hid (T3.out.below hb T3.out.lt)
  have X04 := hid (X03.out.below hb X03.out.lt)
  clear hb cx RA RT TT P3
  have cx := X04.out.cell
  go_wp2_with (first | (refine wpList_load_blk2 (t := 29) rfl rfl rfl Try.underlying29 rfl (by kernel_rfl) W4.out ?_) | (refine wpList_load_blk2 (t := 36) rfl rfl rfl Try.underlying36 rfl (by kernel_rfl) T4.out ?_) | (refine wpList_load_part (l := #[.string f.nm, .int .i64 f.bs, .int .i64 f.bt, .int .i64 f.mo, .int .i64 f.mt, .int .i64 f.ca, .slice f.ra f.rn f.rc, .int .i64 f.pr]) (o := 0) T4.out (by intro j v hj; match j, hj with | 0, hj => (simpa using hj) | 1, hj => (simpa using hj) | 2, hj => (simpa using hj) | 3, hj => (simpa using hj) | 4, hj => (simpa using hj) | 5, hj => (simpa using hj) | 6, hj => (simpa using hj) | 7, hj => (simpa using hj) | j + 8, hj => simp at hj) Try.underlying32 rfl (by kernel_rfl) rfl rfl rfl ?_) | (refine wpList_load_part (l := #[.string t.nm, .int .i64 t.bs, .int .i64 t.bt, .int .i64 t.mo, .int .i64 t.mt, .int .i64 t.ca, .slice t.ra t.rn t.rc, .int .i64 t.pr]) (o := 8) T4.out (by intro j v hj; match j, hj with | 0, hj => (simpa using hj) | 1, hj => (simpa using hj) | 2, hj => (simpa using hj) | 3, hj => (simpa using hj) | 4, hj => (simpa using hj) | 5, hj => (simpa using hj) | 6, hj => (simpa using hj) | 7, hj => (simpa using hj) | j + 8, hj => simp at hj) Try.underlying32 rfl (by kernel_rfl) rfl rfl rfl ?_) | (refine wpList_load_part (l := #[.int .i64 H, .int .i64 M, .int .i64 S]) (o := 16) T4.out (by intro j v hj; match j, hj with | 0, hj => (simpa using hj) | 1, hj => (simpa using hj) | 2, hj => (simpa using hj) | j + 3, hj => simp at hj) Try.underlying34 rfl (by kernel_rfl) rfl rfl rfl ?_))
  refine (steps_any b m cp f t H M S _).mono ?_
  rintro e w5 ⟨v, er, rfl, hs, hv, hb⟩
  have B5 := hid (B4.out.trans (hb.mono B4.out.size))
  have W5 := hid (W4.out.below hb W4.out.lt)
  have T5 := hid (T4.out.below hb T4.out.lt)
  have X05 := hid (X04.out.below hb X04.out.lt)
  clear hb cx
  have SS := hid hs
  have VV := hid hv
  clear hs hv
  have cx := X05.out.cell
  go_wp2_with (first | (refine wpList_load_blk2 (t := 29) rfl rfl rfl Try.underlying29 rfl (by kernel_rfl) W5.out ?_) | (refine wpList_load_blk2 (t := 36) rfl rfl rfl Try.underlying36 rfl (by kernel_rfl) T5.out ?_) | (refine wpList_load_part (l := #[.string f.nm, .int .i64 f.bs, .int .i64 f.bt, .int .i64 f.mo, .int .i64 f.mt, .int .i64 f.ca, .slice f.ra f.rn f.rc, .int .i64 f.pr]) (o := 0) T5.out (by intro j v hj; match j, hj with | 0, hj => (simpa using hj) | 1, hj => (simpa using hj) | 2, hj => (simpa using hj) | 3, hj => (simpa using hj) | 4, hj => (simpa using hj) | 5, hj => (simpa using hj) | 6, hj => (simpa using hj) | 7, hj => (simpa using hj) | j + 8, hj => simp at hj) Try.underlying32 rfl (by kernel_rfl) rfl rfl rfl ?_) | (refine wpList_load_part (l := #[.string t.nm, .int .i64 t.bs, .int .i64 t.bt, .int .i64 t.mo, .int .i64 t.mt, .int .i64 t.ca, .slice t.ra t.rn t.rc, .int .i64 t.pr]) (o := 8) T5.out (by intro j v hj; match j, hj with | 0, hj => (simpa using hj) | 1, hj => (simpa using hj) | 2, hj => (simpa using hj) | 3, hj => (simpa using hj) | 4, hj => (simpa using hj) | 5, hj => (simpa using hj) | 6, hj => (simpa using hj) | 7, hj => (simpa using hj) | j + 8, hj => simp at hj) Try.underlying32 rfl (by kernel_rfl) rfl rfl rfl ?_) | (refine wpList_load_part (l := #[.int .i64 H, .int .i64 M, .int .i64 S]) (o := 16) T5.out (by intro j v hj; match j, hj with | 0, hj => (simpa using hj) | 1, hj => (simpa using hj) | 2, hj => (simpa using hj) | j + 3, hj => simp at hj) Try.underlying34 rfl (by kernel_rfl) rfl rfl rfl ?_))
  refine (secs_any b m cp f t H M S _).mono ?_
  rintro e w6 ⟨v4, er4, rfl, hs, hv, hb⟩
  have B6 := hid (B5.out.trans (hb.mono B5.out.size))
  have W6 := hid (W5.out.below hb W5.out.lt)
  have T6 := hid (T5.out.below hb T5.out.lt)
  have X06 := hid (X05.out.below hb X05.out.lt)
  clear hb cx
  obtain ⟨rfl, rfl⟩ := steps_same SS.out hs
  clear hs hv
  rw [show (if er = 0 then v * S else 0) = seV S v er from rfl]
  obtain ⟨sc, hq⟩ : ∃ q, seV S v er = q := ⟨_, rfl⟩
  rw [hq]
  have HSC := hid hq
  clear hq
  have cx := X06.out.cell
  go_wp2_with (first | (refine wpList_load_blk2 (t := 29) rfl rfl rfl Try.underlying29 rfl (by kernel_rfl) W6.out ?_) | (refine wpList_load_blk2 (t := 36) rfl rfl rfl Try.underlying36 rfl (by kernel_rfl) T6.out ?_) | (refine wpList_load_part (l := #[.string f.nm, .int .i64 f.bs, .int .i64 f.bt, .int .i64 f.mo, .int .i64 f.mt, .int .i64 f.ca, .slice f.ra f.rn f.rc, .int .i64 f.pr]) (o := 0) T6.out (by intro j v hj; match j, hj with | 0, hj => (simpa using hj) | 1, hj => (simpa using hj) | 2, hj => (simpa using hj) | 3, hj => (simpa using hj) | 4, hj => (simpa using hj) | 5, hj => (simpa using hj) | 6, hj => (simpa using hj) | 7, hj => (simpa using hj) | j + 8, hj => simp at hj) Try.underlying32 rfl (by kernel_rfl) rfl rfl rfl ?_) | (refine wpList_load_part (l := #[.string t.nm, .int .i64 t.bs, .int .i64 t.bt, .int .i64 t.mo, .int .i64 t.mt, .int .i64 t.ca, .slice t.ra t.rn t.rc, .int .i64 t.pr]) (o := 8) T6.out (by intro j v hj; match j, hj with | 0, hj => (simpa using hj) | 1, hj => (simpa using hj) | 2, hj => (simpa using hj) | 3, hj => (simpa using hj) | 4, hj => (simpa using hj) | 5, hj => (simpa using hj) | 6, hj => (simpa using hj) | 7, hj => (simpa using hj) | j + 8, hj => simp at hj) Try.underlying32 rfl (by kernel_rfl) rfl rfl rfl ?_) | (refine wpList_load_part (l := #[.int .i64 H, .int .i64 M, .int .i64 S]) (o := 16) T6.out (by intro j v hj; match j, hj with | 0, hj => (simpa using hj) | 1, hj => (simpa using hj) | 2, hj => (simpa using hj) | j + 3, hj => simp at hj) Try.underlying34 rfl (by kernel_rfl) rfl rfl rfl ?_))
  refine (paper_any b m cp f t H M S _ x2 0).mono ?_
  rintro e w7 ⟨v5, er5, rfl, hs, hv, hb⟩
  have B7 := hid (B6.out.trans (hb.mono B6.out.size))
  have W7 := hid (W6.out.below hb W6.out.lt)
  have T7 := hid (T6.out.below hb T6.out.lt)
  have X07 := hid (X06.out.below hb X06.out.lt)
  clear hb cx
  obtain ⟨rfl, rfl⟩ := steps_same SS.out hs
  clear hs hv
  obtain ⟨P1, hq⟩ : ∃ q, paLen S x2 0 v er = q := ⟨_, rfl⟩
  rw [hq]
  have HP1 := hid hq
  clear hq
  obtain ⟨P2, hq⟩ : ∃ q, paMass f t S x2 0 v er = q := ⟨_, rfl⟩
  rw [hq]
  have HP2 := hid hq
  clear hq
  obtain ⟨P3, hq⟩ : ∃ q, paErr S x2 0 v er = q := ⟨_, rfl⟩
  rw [hq]
  have HP3 := hid hq
  clear hq
  by_cases he : er = 0
  rotate_left
  · obtain ⟨e1, e2, e3⟩ := begins_no (S := S) (sp := x2) (v := v) he
    obtain rfl : 0 = sc := e1.symm.trans HSC.out
    obtain rfl : 0 = P1 := e2.symm.trans HP1.out
    obtain rfl : er = P3 := e3.symm.trans HP3.out
    clear HSC HP1 HP2 HP3 e1 e2 e3 SS VV
    have hz2 : (er != 0) = true := by simpa using he
    clear he
    go_wp2_with fail
    refine (awake_any _).mono ?_
    rintro e wz ⟨rfl, hb⟩
    go_wp2
    go_ret
    exact ⟨rfl, B7.out.trans (hb.mono B7.out.size)⟩
  subst he
  obtain ⟨e1, e2⟩ := begins_ok SS.out VV.out
  obtain ⟨e3, e4⟩ := begins_pa (f := f) (t := t) SS.out VV.out (sp := x2)
  rw [HSC.out] at e1 e2
  obtain rfl : 0 = P2 := e3.symm.trans HP2.out
  rw [HP3.out, HP1.out, HSC.out] at e4
  have E4 := hid e4
  clear HSC HP1 HP2 HP3 e3 SS VV e4 e2
  have cT := T7.out.cell
  have cX := X07.out.cell
  by_cases h3 : P3 = 0
  · have E5 := E4.out h3
    clear E4
    go_wp2_with fail
    refine (awake_any _).mono ?_
    rintro e wz ⟨rfl, hb⟩
    go_wp2
    go_ret
    exact ⟨rfl, B7.out.trans (hb.mono B7.out.size)⟩
  · have hz3 : (P3 != 0) = true := by simpa using h3
    clear h3 E4
    go_wp2_with fail
    refine (awake_any _).mono ?_
    rintro e wz ⟨rfl, hb⟩
    go_wp2
    go_ret
    exact ⟨rfl, B7.out.trans (hb.mono B7.out.size)⟩
theorem changeBegins_walk (x0 : Int) (x1 : Int) (x2 : Int) (x3 : Int) (x4 : Int) (x5 : Int) (x6 : Int) (x7 : Int) (x8 : Int) (x9 : Int) (x10 : Int) (x11 : Int) (x12 : Int) (x13 : Int) (x14 : Int) (x15 : Int) (x16 : Int) (x17 : Int) (x18 : Int) (x19 : ByteArray) (x20 : Int) (x21 : Int) (x22 : Int) (x23 : Int) (x24 : Int) (a25 : Option Addr) (c25 : Nat) (x25 : List Int) (x26 : Int) (x27 : ByteArray) (x28 : Int) (x29 : Int) (x30 : Int) (x31 : Int) (x32 : Int) (a33 : Option Addr) (c33 : Nat) (x33 : List Int) (x34 : Int) (x35 : Int) (x36 : Int) (x37 : Int) (x38 : Int) (x39 : Int) (x40 : Int) (w : World) (_h0 : (Lit.int .i64 x0).wf = true) (_h1 : (Lit.int .i64 x1).wf = true) (_h2 : (Lit.int .i64 x2).wf = true) (_h3 : (Lit.int .i64 x3).wf = true) (_h4 : (Lit.int .i64 x4).wf = true) (_h5 : (Lit.int .i64 x5).wf = true) (_h6 : (Lit.int .i64 x6).wf = true) (_h7 : (Lit.int .i64 x7).wf = true) (_h8 : (Lit.int .i64 x8).wf = true) (_h9 : (Lit.int .i64 x9).wf = true) (_h10 : (Lit.int .i64 x10).wf = true) (_h11 : (Lit.int .i64 x11).wf = true) (_h12 : (Lit.int .i64 x12).wf = true) (_h13 : (Lit.int .i64 x13).wf = true) (_h14 : (Lit.int .i64 x14).wf = true) (_h15 : (Lit.int .i64 x15).wf = true) (_h16 : (Lit.int .i64 x16).wf = true) (_h17 : (Lit.int .i64 x17).wf = true) (_h18 : (Lit.int .i64 x18).wf = true) (h19 : x19.size ≤ maxLen) (_h20 : (Lit.int .i64 x20).wf = true) (_h21 : (Lit.int .i64 x21).wf = true) (_h22 : (Lit.int .i64 x22).wf = true) (_h23 : (Lit.int .i64 x23).wf = true) (_h24 : (Lit.int .i64 x24).wf = true) (_h25 : Rds Nn w 1 a25 x25.length (ints x25)) (g25 : x25.length ≤ c25 ∧ c25 ≤ maxLen ∧ (a25 = none → x25.length = 0 ∧ c25 = 0)) (_i25 : ∀ n ∈ x25, (Lit.int .i64 n).wf = true) (_h26 : (Lit.int .i64 x26).wf = true) (h27 : x27.size ≤ maxLen) (_h28 : (Lit.int .i64 x28).wf = true) (_h29 : (Lit.int .i64 x29).wf = true) (_h30 : (Lit.int .i64 x30).wf = true) (_h31 : (Lit.int .i64 x31).wf = true) (_h32 : (Lit.int .i64 x32).wf = true) (_h33 : Rds Nn w 1 a33 x33.length (ints x33)) (g33 : x33.length ≤ c33 ∧ c33 ≤ maxLen ∧ (a33 = none → x33.length = 0 ∧ c33 = 0)) (_i33 : ∀ n ∈ x33, (Lit.int .i64 n).wf = true) (_h34 : (Lit.int .i64 x34).wf = true) (_h35 : (Lit.int .i64 x35).wf = true) (_h36 : (Lit.int .i64 x36).wf = true) (_h37 : (Lit.int .i64 x37).wf = true) (_h38 : (Lit.int .i64 x38).wf = true) (_h39 : (Lit.int .i64 x39).wf = true) (_h40 : (Lit.int .i64 x40).wf = true) :
    Calls Try.prog 9 #[.agg #[.int .i64 x0, .int .i64 x1, .int .i64 x2, .int .i64 x3, .int .i64 x4, .int .i64 x5, .int .i64 x6, .int .i64 x7, .int .i64 x8, .int .i64 x9, .int .i64 x10, .int .i64 x11, .int .i64 x12, .int .i64 x13, .int .i64 x14, .int .i64 x15, .int .i64 x16, .int .i64 x17, .int .i64 x18], .agg #[.string x19, .int .i64 x20, .int .i64 x21, .int .i64 x22, .int .i64 x23, .int .i64 x24, .slice a25 x25.length c25, .int .i64 x26, .string x27, .int .i64 x28, .int .i64 x29, .int .i64 x30, .int .i64 x31, .int .i64 x32, .slice a33 x33.length c33, .int .i64 x34, .int .i64 x35, .int .i64 x36, .int .i64 x37], .agg #[.int .i64 x38, .int .i64 x39, .int .i64 x40]] w fun e w' => e = .returned (.bool true) ∧ Below w.heap.size w w' := by
  exact changeBegins_in ⟨x0, x1, x2, x3, x4, x5, x6, x7, x8⟩ ⟨x9, x10, x11, x12, x13, x14, x15, x16, x17⟩ x18 ⟨x19, x20, x21, x22, x23, x24, a25, _, c25, x26⟩ ⟨x27, x28, x29, x30, x31, x32, a33, _, c33, x34⟩ x35 x36 x37 x38 x39 x40 w ⟨Nat.le_trans g25.1 g25.2.1, h19⟩ ⟨Nat.le_trans g33.1 g33.2.1, h27⟩
end Go.Proofs.Ytddphdkhaaolmaa
