/- Chapter 32: Secs and Paper of both. -/
import Derived.Test.YtddphdkhaaolmaaG6
import Derived.Test.YtddphdkhaaolmaaG3
import Derived.Lib.MinMax
namespace Go.Proofs.Ytddphdkhaaolmaa
open Go.RowKit

section
variable {b m : CP} {cp H M S v er : Int} {f t : GR} {w w' : World}
theorem ss_zero (h : SSpec b m cp f t H M S v er) (he : er ≠ 0) : v = 0 := by
  obtain ⟨h1, h2⟩ := h
  by_cases hr : ruErr H M S = 0
  · obtain ⟨pe, l, hp, h3, h4⟩ := h2 hr
    by_cases hz : pe = 0
    · obtain ⟨rfl, rfl⟩ := h4 hz
      split at he
      · rename_i h5; exact h5
      · exact absurd rfl he
    · exact (h3 hz).1
  · exact (h1 hr).1
theorem ss_ru (h : SSpec b m cp f t H M S v 0) : ruErr H M S = 0 := by
  obtain ⟨h1, h2⟩ := h
  by_cases hr : ruErr H M S = 0
  · exact hr
  · exact absurd (h1 hr).2.symm hr
theorem ss_rule (h : SSpec b m cp f t H M S v 0) : 1 ≤ S ∧ S ≤ 86400 := by
  obtain ⟨_, _, _, _, h5, h6⟩ := ru_ok (ss_ru h)
  exact ⟨h5, h6⟩
theorem ps_ok {pe : Int} {l : List (List Int)} {n : Int} (h : PSpec b m cp f t n pe l) (hz : pe = 0) : chkW b m cp = 0 ∧ okPath f t n := by
  obtain ⟨h1, h2, h3⟩ := h
  by_cases hc : chkW b m cp = 0
  · by_cases ho : okPath f t n
    · exact ⟨hc, ho⟩
    · have := (h2 hc ho).1; omega
  · exact absurd ((h1 hc).1.symm.trans hz) hc
theorem ss_fit (h : SSpec b m cp f t H M S v 0) : (1 ≤ f.bs ∧ f.bs ≤ 1000000) ∧ 1 ≤ t.bs ∧ t.bs ≤ 1000000 := by
  obtain ⟨pe, l, hp, h3, h4⟩ := h.2 (ss_ru h)
  have hz : pe = 0 := by
    by_cases hz : pe = 0
    · exact hz
    · exact absurd (h3 hz).2.symm hz
  obtain ⟨_, h5, h6, _⟩ := ps_ok hp hz
  exact ⟨(fit_yes h5).1, (fit_yes h6).1⟩
end
def SePost (b m : CP) (cp : Int) (f t : GR) (H M S : Int) (w : World) : Ending → World → Prop := fun e w' => ∃ v er, e = .returned (.tuple #[.int .i64 (if er = 0 then v * S else 0), .int .i64 er]) ∧ SSpec b m cp f t H M S v er ∧ (0 ≤ v ∧ v ≤ 1000000) ∧ Below w.heap.size w w'
def paErr (S sp wd v er : Int) : Int := if er ≠ 0 then er else if ¬ ((0 ≤ sp ∧ sp ≤ 40000) ∧ 0 ≤ wd ∧ wd ≤ 12000) then 1 else if 17179869184 < v * S * sp then 21 else 0
def paLen (S sp wd v er : Int) : Int := if paErr S sp wd v er = 0 then v * S * sp else 0
def paMass (f t : GR) (S sp wd v er : Int) : Int := if paErr S sp wd v er = 0 then rnd (v * S * sp * wd * max f.bs t.bs) else 0
def PaPost (b m : CP) (cp : Int) (f t : GR) (H M S sp wd : Int) (w : World) : Ending → World → Prop := fun e w' => ∃ v er, e = .returned (.tuple #[.int .i64 (paLen S sp wd v er), .int .i64 (paMass f t S sp wd v er), .int .i64 (paErr S sp wd v er)]) ∧ SSpec b m cp f t H M S v er ∧ (0 ≤ v ∧ v ≤ 1000000) ∧ Below w.heap.size w w'
section
variable {b m : CP} {cp H M S v er sp wd : Int} {f t : GR} {w w' : World}
theorem pa_no {x : Int} (h : x = paErr S sp wd v er) (hx : x ≠ 0) (hs : SSpec b m cp f t H M S v er) (hv : 0 ≤ v ∧ v ≤ 1000000) (hb : Below w.heap.size w w') : PaPost b m cp f t H M S sp wd w (.returned (.tuple #[.int .i64 0, .int .i64 0, .int .i64 x])) w' := by
  subst h
  exact ⟨v, er, by unfold paLen paMass; rw [if_neg hx, if_neg hx], hs, hv, hb⟩
theorem pa_e (hs : SSpec b m cp f t H M S v er) (hv : 0 ≤ v ∧ v ≤ 1000000) (he : er ≠ 0) (hb : Below w.heap.size w w') : PaPost b m cp f t H M S sp wd w (.returned (.tuple #[.int .i64 0, .int .i64 0, .int .i64 er])) w' := pa_no (by unfold paErr; rw [if_pos he]) he hs hv hb
theorem pa_1 (hs : SSpec b m cp f t H M S v 0) (hv : 0 ≤ v ∧ v ≤ 1000000) (h : ¬ ((0 ≤ sp ∧ sp ≤ 40000) ∧ 0 ≤ wd ∧ wd ≤ 12000)) (hb : Below w.heap.size w w') : PaPost b m cp f t H M S sp wd w (.returned (.tuple #[.int .i64 0, .int .i64 0, .int .i64 1])) w' := pa_no (by unfold paErr; rw [if_neg (fun e => e rfl), if_pos h]) (by decide) hs hv hb
theorem pa_21 (hs : SSpec b m cp f t H M S v 0) (hv : 0 ≤ v ∧ v ≤ 1000000) (h1 : 0 ≤ sp ∧ sp ≤ 40000) (h2 : 0 ≤ wd ∧ wd ≤ 12000) (h3 : 17179869184 < v * S * sp) (hb : Below w.heap.size w w') : PaPost b m cp f t H M S sp wd w (.returned (.tuple #[.int .i64 0, .int .i64 0, .int .i64 21])) w' := pa_no (by unfold paErr; rw [if_neg (fun e => e rfl), if_neg (fun e => e ⟨h1, h2⟩), if_pos h3]) (by decide) hs hv hb
theorem pa_ok {ln x : Int} (hs : SSpec b m cp f t H M S v 0) (hv : 0 ≤ v ∧ v ≤ 1000000) (h1 : 0 ≤ sp ∧ sp ≤ 40000) (h2 : 0 ≤ wd ∧ wd ≤ 12000) (h3 : v * S * sp = ln) (h4 : ln ≤ 17179869184) (h5 : ln * wd * max f.bs t.bs = x) (hb : Below w.heap.size w w') : PaPost b m cp f t H M S sp wd w (.returned (.tuple #[.int .i64 ln, .int .i64 (rnd x), .int .i64 0])) w' := by
  subst h3 h5
  have e : paErr S sp wd v 0 = 0 := by unfold paErr; rw [if_neg (fun e => e rfl), if_neg (fun e => e ⟨h1, h2⟩), if_neg (by omega)]
  exact ⟨v, 0, by unfold paLen paMass; rw [if_pos e, if_pos e, e], hs, hv, hb⟩
end
set_option linter.unusedSimpArgs false in
set_option maxRecDepth 100000 in
set_option maxHeartbeats 16000000 in
theorem secs_any (b m : CP) (cp : Int) (f t : GR) (H M S : Int) (w : World) : Calls Try.prog 19 #[.agg #[.int .i64 b.kp, .int .i64 b.ki, .int .i64 b.sh, .int .i64 b.lo, .int .i64 b.hi, .int .i64 b.rate, .int .i64 b.ga, .int .i64 b.la, .int .i64 b.de, .int .i64 m.kp, .int .i64 m.ki, .int .i64 m.sh, .int .i64 m.lo, .int .i64 m.hi, .int .i64 m.rate, .int .i64 m.ga, .int .i64 m.la, .int .i64 m.de, .int .i64 cp], .agg #[.string f.nm, .int .i64 f.bs, .int .i64 f.bt, .int .i64 f.mo, .int .i64 f.mt, .int .i64 f.ca, .slice f.ra f.rn f.rc, .int .i64 f.pr], .agg #[.string t.nm, .int .i64 t.bs, .int .i64 t.bt, .int .i64 t.mo, .int .i64 t.mt, .int .i64 t.ca, .slice t.ra t.rn t.rc, .int .i64 t.pr], .agg #[.int .i64 H, .int .i64 M, .int .i64 S]] w (SePost b m cp f t H M S w) := by
  have W0 := hid (Blk.alloc (Blk.alloc (Blk.alloc (Blk.at_new w (b := w.heap.size) (t := 29) (cs := #[.int .i64 b.kp, .int .i64 b.ki, .int .i64 b.sh, .int .i64 b.lo, .int .i64 b.hi, .int .i64 b.rate, .int .i64 b.ga, .int .i64 b.la, .int .i64 b.de, .int .i64 m.kp, .int .i64 m.ki, .int .i64 m.sh, .int .i64 m.lo, .int .i64 m.hi, .int .i64 m.rate, .int .i64 m.ga, .int .i64 m.la, .int .i64 m.de, .int .i64 cp]) rfl) (.cells #[.string f.nm, .int .i64 f.bs, .int .i64 f.bt, .int .i64 f.mo, .int .i64 f.mt, .int .i64 f.ca, .slice f.ra f.rn f.rc, .int .i64 f.pr] 32)) (.cells #[.string t.nm, .int .i64 t.bs, .int .i64 t.bt, .int .i64 t.mo, .int .i64 t.mt, .int .i64 t.ca, .slice t.ra t.rn t.rc, .int .i64 t.pr] 32)) (.cells #[.int .i64 H, .int .i64 M, .int .i64 S] 34))
  have F0 := hid (Blk.alloc (Blk.alloc (Blk.at_new (w.alloc (.cells #[.int .i64 b.kp, .int .i64 b.ki, .int .i64 b.sh, .int .i64 b.lo, .int .i64 b.hi, .int .i64 b.rate, .int .i64 b.ga, .int .i64 b.la, .int .i64 b.de, .int .i64 m.kp, .int .i64 m.ki, .int .i64 m.sh, .int .i64 m.lo, .int .i64 m.hi, .int .i64 m.rate, .int .i64 m.ga, .int .i64 m.la, .int .i64 m.de, .int .i64 cp] 29)) (b := w.heap.size + 1) (t := 32) (cs := #[.string f.nm, .int .i64 f.bs, .int .i64 f.bt, .int .i64 f.mo, .int .i64 f.mt, .int .i64 f.ca, .slice f.ra f.rn f.rc, .int .i64 f.pr]) (by simp)) (.cells #[.string t.nm, .int .i64 t.bs, .int .i64 t.bt, .int .i64 t.mo, .int .i64 t.mt, .int .i64 t.ca, .slice t.ra t.rn t.rc, .int .i64 t.pr] 32)) (.cells #[.int .i64 H, .int .i64 M, .int .i64 S] 34))
  have T0 := hid (Blk.alloc (Blk.at_new ((w.alloc (.cells #[.int .i64 b.kp, .int .i64 b.ki, .int .i64 b.sh, .int .i64 b.lo, .int .i64 b.hi, .int .i64 b.rate, .int .i64 b.ga, .int .i64 b.la, .int .i64 b.de, .int .i64 m.kp, .int .i64 m.ki, .int .i64 m.sh, .int .i64 m.lo, .int .i64 m.hi, .int .i64 m.rate, .int .i64 m.ga, .int .i64 m.la, .int .i64 m.de, .int .i64 cp] 29)).alloc (.cells #[.string f.nm, .int .i64 f.bs, .int .i64 f.bt, .int .i64 f.mo, .int .i64 f.mt, .int .i64 f.ca, .slice f.ra f.rn f.rc, .int .i64 f.pr] 32)) (b := w.heap.size + 1 + 1) (t := 32) (cs := #[.string t.nm, .int .i64 t.bs, .int .i64 t.bt, .int .i64 t.mo, .int .i64 t.mt, .int .i64 t.ca, .slice t.ra t.rn t.rc, .int .i64 t.pr]) (by simp)) (.cells #[.int .i64 H, .int .i64 M, .int .i64 S] 34))
  have R0 := hid (Blk.at_new (((w.alloc (.cells #[.int .i64 b.kp, .int .i64 b.ki, .int .i64 b.sh, .int .i64 b.lo, .int .i64 b.hi, .int .i64 b.rate, .int .i64 b.ga, .int .i64 b.la, .int .i64 b.de, .int .i64 m.kp, .int .i64 m.ki, .int .i64 m.sh, .int .i64 m.lo, .int .i64 m.hi, .int .i64 m.rate, .int .i64 m.ga, .int .i64 m.la, .int .i64 m.de, .int .i64 cp] 29)).alloc (.cells #[.string f.nm, .int .i64 f.bs, .int .i64 f.bt, .int .i64 f.mo, .int .i64 f.mt, .int .i64 f.ca, .slice f.ra f.rn f.rc, .int .i64 f.pr] 32)).alloc (.cells #[.string t.nm, .int .i64 t.bs, .int .i64 t.bt, .int .i64 t.mo, .int .i64 t.mt, .int .i64 t.ca, .slice t.ra t.rn t.rc, .int .i64 t.pr] 32)) (b := w.heap.size + 1 + 1 + 1) (t := 34) (cs := #[.int .i64 H, .int .i64 M, .int .i64 S]) (by simp))
  have B0 := hid (((((Below.refl w.heap.size w).alloc (Nat.le_refl _) (.cells #[.int .i64 b.kp, .int .i64 b.ki, .int .i64 b.sh, .int .i64 b.lo, .int .i64 b.hi, .int .i64 b.rate, .int .i64 b.ga, .int .i64 b.la, .int .i64 b.de, .int .i64 m.kp, .int .i64 m.ki, .int .i64 m.sh, .int .i64 m.lo, .int .i64 m.hi, .int .i64 m.rate, .int .i64 m.ga, .int .i64 m.la, .int .i64 m.de, .int .i64 cp] 29)).alloc (by simp) (.cells #[.string f.nm, .int .i64 f.bs, .int .i64 f.bt, .int .i64 f.mo, .int .i64 f.mt, .int .i64 f.ca, .slice f.ra f.rn f.rc, .int .i64 f.pr] 32)).alloc (by simp <;> omega) (.cells #[.string t.nm, .int .i64 t.bs, .int .i64 t.bt, .int .i64 t.mo, .int .i64 t.mt, .int .i64 t.ca, .slice t.ra t.rn t.rc, .int .i64 t.pr] 32)).alloc (by simp <;> omega) (.cells #[.int .i64 H, .int .i64 M, .int .i64 S] 34))
  go_enter Try.func19, Try.ntmps19
  go_wp2_with (first | (refine wpList_load_blk2 (t := 29) rfl rfl rfl Try.underlying29 rfl (by kernel_rfl) W0.out ?_) | (refine wpList_load_blk2 (t := 32) rfl rfl rfl Try.underlying32 rfl (by kernel_rfl) F0.out ?_) | (refine wpList_load_blk2 (t := 32) rfl rfl rfl Try.underlying32 rfl (by kernel_rfl) T0.out ?_) | (refine wpList_load_blk2 (t := 34) rfl rfl rfl Try.underlying34 rfl (by kernel_rfl) R0.out ?_))
  refine (steps_any b m cp f t H M S _).mono ?_
  rintro e w1 ⟨v, er, rfl, hs, hv, hb⟩
  have SS := hid hs
  obtain ⟨v1, v2⟩ := hv
  have B1 := hid (B0.out.trans (hb.mono B0.out.size))
  have W1 := hid (W0.out.below hb W0.out.lt)
  have F1 := hid (F0.out.below hb F0.out.lt)
  have T1 := hid (T0.out.below hb T0.out.lt)
  have R1 := hid (R0.out.below hb R0.out.lt)
  clear hb
  clear hs
  have c1 := R1.out.cell
  by_cases he : er = 0
  rotate_left
  · obtain rfl := ss_zero SS.out he
    have HE := hid he
    have hz2 : (er != 0) = true := by simpa using he
    clear he
    go_wp2
    go_ret2
    exact ⟨0, er, by simp [HE.out], SS.out, by omega, B1.out⟩
  subst he
  obtain ⟨r5, r6⟩ := ss_rule SS.out
  have m1 : v * S ≤ 1000000 * 86400 := Int.mul_le_mul v2 r6 (by omega) (by decide)
  have m0 : 0 ≤ v * S := Int.mul_nonneg v1 (by omega)
  have wm : IntKind.i64.wrap (v * S) = v * S := IntWalk.i64_in _ (by omega)
  go_wp2
  go_ret2
  exact ⟨v, 0, rfl, SS.out, ⟨v1, v2⟩, B1.out⟩
set_option linter.unusedSimpArgs false in
set_option maxRecDepth 100000 in
set_option maxHeartbeats 16000000 in
theorem rsecs_any (b m : CP) (cp : Int) (f t : GR) (H M S : Int) (w : World) : Calls Try.prog 20 #[.agg #[.int .i64 b.kp, .int .i64 b.ki, .int .i64 b.sh, .int .i64 b.lo, .int .i64 b.hi, .int .i64 b.rate, .int .i64 b.ga, .int .i64 b.la, .int .i64 b.de, .int .i64 m.kp, .int .i64 m.ki, .int .i64 m.sh, .int .i64 m.lo, .int .i64 m.hi, .int .i64 m.rate, .int .i64 m.ga, .int .i64 m.la, .int .i64 m.de, .int .i64 cp], .agg #[.string f.nm, .int .i64 f.bs, .int .i64 f.bt, .int .i64 f.mo, .int .i64 f.mt, .int .i64 f.ca, .slice f.ra f.rn f.rc, .int .i64 f.pr], .agg #[.string t.nm, .int .i64 t.bs, .int .i64 t.bt, .int .i64 t.mo, .int .i64 t.mt, .int .i64 t.ca, .slice t.ra t.rn t.rc, .int .i64 t.pr], .agg #[.int .i64 H, .int .i64 M, .int .i64 S]] w (SePost b m cp f t H M S w) := by
  have W0 := hid (Blk.alloc (Blk.alloc (Blk.alloc (Blk.at_new w (b := w.heap.size) (t := 29) (cs := #[.int .i64 b.kp, .int .i64 b.ki, .int .i64 b.sh, .int .i64 b.lo, .int .i64 b.hi, .int .i64 b.rate, .int .i64 b.ga, .int .i64 b.la, .int .i64 b.de, .int .i64 m.kp, .int .i64 m.ki, .int .i64 m.sh, .int .i64 m.lo, .int .i64 m.hi, .int .i64 m.rate, .int .i64 m.ga, .int .i64 m.la, .int .i64 m.de, .int .i64 cp]) rfl) (.cells #[.string f.nm, .int .i64 f.bs, .int .i64 f.bt, .int .i64 f.mo, .int .i64 f.mt, .int .i64 f.ca, .slice f.ra f.rn f.rc, .int .i64 f.pr] 32)) (.cells #[.string t.nm, .int .i64 t.bs, .int .i64 t.bt, .int .i64 t.mo, .int .i64 t.mt, .int .i64 t.ca, .slice t.ra t.rn t.rc, .int .i64 t.pr] 32)) (.cells #[.int .i64 H, .int .i64 M, .int .i64 S] 45))
  have F0 := hid (Blk.alloc (Blk.alloc (Blk.at_new (w.alloc (.cells #[.int .i64 b.kp, .int .i64 b.ki, .int .i64 b.sh, .int .i64 b.lo, .int .i64 b.hi, .int .i64 b.rate, .int .i64 b.ga, .int .i64 b.la, .int .i64 b.de, .int .i64 m.kp, .int .i64 m.ki, .int .i64 m.sh, .int .i64 m.lo, .int .i64 m.hi, .int .i64 m.rate, .int .i64 m.ga, .int .i64 m.la, .int .i64 m.de, .int .i64 cp] 29)) (b := w.heap.size + 1) (t := 32) (cs := #[.string f.nm, .int .i64 f.bs, .int .i64 f.bt, .int .i64 f.mo, .int .i64 f.mt, .int .i64 f.ca, .slice f.ra f.rn f.rc, .int .i64 f.pr]) (by simp)) (.cells #[.string t.nm, .int .i64 t.bs, .int .i64 t.bt, .int .i64 t.mo, .int .i64 t.mt, .int .i64 t.ca, .slice t.ra t.rn t.rc, .int .i64 t.pr] 32)) (.cells #[.int .i64 H, .int .i64 M, .int .i64 S] 45))
  have T0 := hid (Blk.alloc (Blk.at_new ((w.alloc (.cells #[.int .i64 b.kp, .int .i64 b.ki, .int .i64 b.sh, .int .i64 b.lo, .int .i64 b.hi, .int .i64 b.rate, .int .i64 b.ga, .int .i64 b.la, .int .i64 b.de, .int .i64 m.kp, .int .i64 m.ki, .int .i64 m.sh, .int .i64 m.lo, .int .i64 m.hi, .int .i64 m.rate, .int .i64 m.ga, .int .i64 m.la, .int .i64 m.de, .int .i64 cp] 29)).alloc (.cells #[.string f.nm, .int .i64 f.bs, .int .i64 f.bt, .int .i64 f.mo, .int .i64 f.mt, .int .i64 f.ca, .slice f.ra f.rn f.rc, .int .i64 f.pr] 32)) (b := w.heap.size + 1 + 1) (t := 32) (cs := #[.string t.nm, .int .i64 t.bs, .int .i64 t.bt, .int .i64 t.mo, .int .i64 t.mt, .int .i64 t.ca, .slice t.ra t.rn t.rc, .int .i64 t.pr]) (by simp)) (.cells #[.int .i64 H, .int .i64 M, .int .i64 S] 45))
  have R0 := hid (Blk.at_new (((w.alloc (.cells #[.int .i64 b.kp, .int .i64 b.ki, .int .i64 b.sh, .int .i64 b.lo, .int .i64 b.hi, .int .i64 b.rate, .int .i64 b.ga, .int .i64 b.la, .int .i64 b.de, .int .i64 m.kp, .int .i64 m.ki, .int .i64 m.sh, .int .i64 m.lo, .int .i64 m.hi, .int .i64 m.rate, .int .i64 m.ga, .int .i64 m.la, .int .i64 m.de, .int .i64 cp] 29)).alloc (.cells #[.string f.nm, .int .i64 f.bs, .int .i64 f.bt, .int .i64 f.mo, .int .i64 f.mt, .int .i64 f.ca, .slice f.ra f.rn f.rc, .int .i64 f.pr] 32)).alloc (.cells #[.string t.nm, .int .i64 t.bs, .int .i64 t.bt, .int .i64 t.mo, .int .i64 t.mt, .int .i64 t.ca, .slice t.ra t.rn t.rc, .int .i64 t.pr] 32)) (b := w.heap.size + 1 + 1 + 1) (t := 45) (cs := #[.int .i64 H, .int .i64 M, .int .i64 S]) (by simp))
  have B0 := hid (((((Below.refl w.heap.size w).alloc (Nat.le_refl _) (.cells #[.int .i64 b.kp, .int .i64 b.ki, .int .i64 b.sh, .int .i64 b.lo, .int .i64 b.hi, .int .i64 b.rate, .int .i64 b.ga, .int .i64 b.la, .int .i64 b.de, .int .i64 m.kp, .int .i64 m.ki, .int .i64 m.sh, .int .i64 m.lo, .int .i64 m.hi, .int .i64 m.rate, .int .i64 m.ga, .int .i64 m.la, .int .i64 m.de, .int .i64 cp] 29)).alloc (by simp) (.cells #[.string f.nm, .int .i64 f.bs, .int .i64 f.bt, .int .i64 f.mo, .int .i64 f.mt, .int .i64 f.ca, .slice f.ra f.rn f.rc, .int .i64 f.pr] 32)).alloc (by simp <;> omega) (.cells #[.string t.nm, .int .i64 t.bs, .int .i64 t.bt, .int .i64 t.mo, .int .i64 t.mt, .int .i64 t.ca, .slice t.ra t.rn t.rc, .int .i64 t.pr] 32)).alloc (by simp <;> omega) (.cells #[.int .i64 H, .int .i64 M, .int .i64 S] 45))
  go_enter Try.func20, Try.ntmps20
  go_wp2_with (first | (refine wpList_load_blk2 (t := 29) rfl rfl rfl Try.underlying29 rfl (by kernel_rfl) W0.out ?_) | (refine wpList_load_blk2 (t := 32) rfl rfl rfl Try.underlying32 rfl (by kernel_rfl) F0.out ?_) | (refine wpList_load_blk2 (t := 32) rfl rfl rfl Try.underlying32 rfl (by kernel_rfl) T0.out ?_) | (refine wpList_load_blk2 (t := 45) rfl rfl rfl Try.underlying45 rfl (by kernel_rfl) R0.out ?_))
  refine (rsteps_any b m cp f t H M S _).mono ?_
  rintro e w1 ⟨v, er, rfl, hs, hv, hb⟩
  have SS := hid hs
  obtain ⟨v1, v2⟩ := hv
  have B1 := hid (B0.out.trans (hb.mono B0.out.size))
  have W1 := hid (W0.out.below hb W0.out.lt)
  have F1 := hid (F0.out.below hb F0.out.lt)
  have T1 := hid (T0.out.below hb T0.out.lt)
  have R1 := hid (R0.out.below hb R0.out.lt)
  clear hb
  clear hs
  have c1 := R1.out.cell
  by_cases he : er = 0
  rotate_left
  · obtain rfl := ss_zero SS.out he
    have HE := hid he
    have hz2 : (er != 0) = true := by simpa using he
    clear he
    obtain ⟨x, hx⟩ : ∃ x, min (max S 0) 86400 = x := ⟨_, rfl⟩
    go_wp2
    go_ret2
    exact ⟨0, er, by simp [HE.out], SS.out, by omega, B1.out⟩
  subst he
  obtain ⟨r5, r6⟩ := ss_rule SS.out
  have m1 : v * S ≤ 1000000 * 86400 := Int.mul_le_mul v2 r6 (by omega) (by decide)
  have m0 : 0 ≤ v * S := Int.mul_nonneg v1 (by omega)
  have wm : IntKind.i64.wrap (v * S) = v * S := IntWalk.i64_in _ (by omega)
  have mm : max S 0 = S := by omega
  have mm2 : min S 86400 = S := by omega
  go_wp2
  go_ret2
  exact ⟨v, 0, rfl, SS.out, ⟨v1, v2⟩, B1.out⟩
set_option linter.unusedSimpArgs false in
set_option maxRecDepth 100000 in
set_option maxHeartbeats 16000000 in
theorem paper_any (b m : CP) (cp : Int) (f t : GR) (H M S : Int) (w : World) (sp wd : Int) : Calls Try.prog 21 #[.agg #[.int .i64 b.kp, .int .i64 b.ki, .int .i64 b.sh, .int .i64 b.lo, .int .i64 b.hi, .int .i64 b.rate, .int .i64 b.ga, .int .i64 b.la, .int .i64 b.de, .int .i64 m.kp, .int .i64 m.ki, .int .i64 m.sh, .int .i64 m.lo, .int .i64 m.hi, .int .i64 m.rate, .int .i64 m.ga, .int .i64 m.la, .int .i64 m.de, .int .i64 cp], .agg #[.string f.nm, .int .i64 f.bs, .int .i64 f.bt, .int .i64 f.mo, .int .i64 f.mt, .int .i64 f.ca, .slice f.ra f.rn f.rc, .int .i64 f.pr], .agg #[.string t.nm, .int .i64 t.bs, .int .i64 t.bt, .int .i64 t.mo, .int .i64 t.mt, .int .i64 t.ca, .slice t.ra t.rn t.rc, .int .i64 t.pr], .agg #[.int .i64 H, .int .i64 M, .int .i64 S], .int .i64 sp, .int .i64 wd] w (PaPost b m cp f t H M S sp wd w) := by
  have W0 := hid (Blk.alloc (Blk.alloc (Blk.alloc (Blk.at_new w (b := w.heap.size) (t := 29) (cs := #[.int .i64 b.kp, .int .i64 b.ki, .int .i64 b.sh, .int .i64 b.lo, .int .i64 b.hi, .int .i64 b.rate, .int .i64 b.ga, .int .i64 b.la, .int .i64 b.de, .int .i64 m.kp, .int .i64 m.ki, .int .i64 m.sh, .int .i64 m.lo, .int .i64 m.hi, .int .i64 m.rate, .int .i64 m.ga, .int .i64 m.la, .int .i64 m.de, .int .i64 cp]) rfl) (.cells #[.string f.nm, .int .i64 f.bs, .int .i64 f.bt, .int .i64 f.mo, .int .i64 f.mt, .int .i64 f.ca, .slice f.ra f.rn f.rc, .int .i64 f.pr] 32)) (.cells #[.string t.nm, .int .i64 t.bs, .int .i64 t.bt, .int .i64 t.mo, .int .i64 t.mt, .int .i64 t.ca, .slice t.ra t.rn t.rc, .int .i64 t.pr] 32)) (.cells #[.int .i64 H, .int .i64 M, .int .i64 S] 34))
  have F0 := hid (Blk.alloc (Blk.alloc (Blk.at_new (w.alloc (.cells #[.int .i64 b.kp, .int .i64 b.ki, .int .i64 b.sh, .int .i64 b.lo, .int .i64 b.hi, .int .i64 b.rate, .int .i64 b.ga, .int .i64 b.la, .int .i64 b.de, .int .i64 m.kp, .int .i64 m.ki, .int .i64 m.sh, .int .i64 m.lo, .int .i64 m.hi, .int .i64 m.rate, .int .i64 m.ga, .int .i64 m.la, .int .i64 m.de, .int .i64 cp] 29)) (b := w.heap.size + 1) (t := 32) (cs := #[.string f.nm, .int .i64 f.bs, .int .i64 f.bt, .int .i64 f.mo, .int .i64 f.mt, .int .i64 f.ca, .slice f.ra f.rn f.rc, .int .i64 f.pr]) (by simp)) (.cells #[.string t.nm, .int .i64 t.bs, .int .i64 t.bt, .int .i64 t.mo, .int .i64 t.mt, .int .i64 t.ca, .slice t.ra t.rn t.rc, .int .i64 t.pr] 32)) (.cells #[.int .i64 H, .int .i64 M, .int .i64 S] 34))
  have T0 := hid (Blk.alloc (Blk.at_new ((w.alloc (.cells #[.int .i64 b.kp, .int .i64 b.ki, .int .i64 b.sh, .int .i64 b.lo, .int .i64 b.hi, .int .i64 b.rate, .int .i64 b.ga, .int .i64 b.la, .int .i64 b.de, .int .i64 m.kp, .int .i64 m.ki, .int .i64 m.sh, .int .i64 m.lo, .int .i64 m.hi, .int .i64 m.rate, .int .i64 m.ga, .int .i64 m.la, .int .i64 m.de, .int .i64 cp] 29)).alloc (.cells #[.string f.nm, .int .i64 f.bs, .int .i64 f.bt, .int .i64 f.mo, .int .i64 f.mt, .int .i64 f.ca, .slice f.ra f.rn f.rc, .int .i64 f.pr] 32)) (b := w.heap.size + 1 + 1) (t := 32) (cs := #[.string t.nm, .int .i64 t.bs, .int .i64 t.bt, .int .i64 t.mo, .int .i64 t.mt, .int .i64 t.ca, .slice t.ra t.rn t.rc, .int .i64 t.pr]) (by simp)) (.cells #[.int .i64 H, .int .i64 M, .int .i64 S] 34))
  have R0 := hid (Blk.at_new (((w.alloc (.cells #[.int .i64 b.kp, .int .i64 b.ki, .int .i64 b.sh, .int .i64 b.lo, .int .i64 b.hi, .int .i64 b.rate, .int .i64 b.ga, .int .i64 b.la, .int .i64 b.de, .int .i64 m.kp, .int .i64 m.ki, .int .i64 m.sh, .int .i64 m.lo, .int .i64 m.hi, .int .i64 m.rate, .int .i64 m.ga, .int .i64 m.la, .int .i64 m.de, .int .i64 cp] 29)).alloc (.cells #[.string f.nm, .int .i64 f.bs, .int .i64 f.bt, .int .i64 f.mo, .int .i64 f.mt, .int .i64 f.ca, .slice f.ra f.rn f.rc, .int .i64 f.pr] 32)).alloc (.cells #[.string t.nm, .int .i64 t.bs, .int .i64 t.bt, .int .i64 t.mo, .int .i64 t.mt, .int .i64 t.ca, .slice t.ra t.rn t.rc, .int .i64 t.pr] 32)) (b := w.heap.size + 1 + 1 + 1) (t := 34) (cs := #[.int .i64 H, .int .i64 M, .int .i64 S]) (by simp))
  have B0 := hid (((((Below.refl w.heap.size w).alloc (Nat.le_refl _) (.cells #[.int .i64 b.kp, .int .i64 b.ki, .int .i64 b.sh, .int .i64 b.lo, .int .i64 b.hi, .int .i64 b.rate, .int .i64 b.ga, .int .i64 b.la, .int .i64 b.de, .int .i64 m.kp, .int .i64 m.ki, .int .i64 m.sh, .int .i64 m.lo, .int .i64 m.hi, .int .i64 m.rate, .int .i64 m.ga, .int .i64 m.la, .int .i64 m.de, .int .i64 cp] 29)).alloc (by simp) (.cells #[.string f.nm, .int .i64 f.bs, .int .i64 f.bt, .int .i64 f.mo, .int .i64 f.mt, .int .i64 f.ca, .slice f.ra f.rn f.rc, .int .i64 f.pr] 32)).alloc (by simp <;> omega) (.cells #[.string t.nm, .int .i64 t.bs, .int .i64 t.bt, .int .i64 t.mo, .int .i64 t.mt, .int .i64 t.ca, .slice t.ra t.rn t.rc, .int .i64 t.pr] 32)).alloc (by simp <;> omega) (.cells #[.int .i64 H, .int .i64 M, .int .i64 S] 34))
  go_enter Try.func21, Try.ntmps21
  go_wp2_with (first | (refine wpList_load_blk2 (t := 29) rfl rfl rfl Try.underlying29 rfl (by kernel_rfl) W0.out ?_) | (refine wpList_load_blk2 (t := 32) rfl rfl rfl Try.underlying32 rfl (by kernel_rfl) F0.out ?_) | (refine wpList_load_blk2 (t := 32) rfl rfl rfl Try.underlying32 rfl (by kernel_rfl) T0.out ?_) | (refine wpList_load_blk2 (t := 34) rfl rfl rfl Try.underlying34 rfl (by kernel_rfl) R0.out ?_))
  refine (secs_any b m cp f t H M S _).mono ?_
  rintro e w1 ⟨v, er, rfl, hs, hv, hb⟩
  have SS := hid hs
  have VV := hid hv
  obtain ⟨v1, v2⟩ := hv
  have B1 := hid (B0.out.trans (hb.mono B0.out.size))
  have W1 := hid (W0.out.below hb W0.out.lt)
  have F1 := hid (F0.out.below hb F0.out.lt)
  have T1 := hid (T0.out.below hb T0.out.lt)
  have R1 := hid (R0.out.below hb R0.out.lt)
  clear hb
  clear hs
  by_cases he : er = 0
  rotate_left
  · rw [if_neg he]
    have HE := hid he
    have hz2 : (er != 0) = true := by simpa using he
    clear he
    go_wp2
    go_ret3
    exact pa_e SS.out VV.out HE.out B1.out
  subst he
  rw [if_pos rfl]
  obtain ⟨r5, r6⟩ := ss_rule SS.out
  obtain ⟨⟨f1, f2⟩, t1, t2⟩ := ss_fit SS.out
  have m1 : v * S ≤ 1000000 * 86400 := Int.mul_le_mul v2 r6 (by omega) (by decide)
  have m0 : 0 ≤ v * S := Int.mul_nonneg v1 (by omega)
  go_wp2_with fail
  refine (cin_any sp 0 40000 _).mono ?_
  rintro e w2 ⟨rfl, hb⟩
  have B2 := hid (B1.out.trans (hb.mono B1.out.size))
  have W2 := hid (W1.out.below hb W1.out.lt)
  have F2 := hid (F1.out.below hb F1.out.lt)
  have T2 := hid (T1.out.below hb T1.out.lt)
  have R2 := hid (R1.out.below hb R1.out.lt)
  clear hb
  by_cases hs0 : 0 ≤ sp ∧ sp ≤ 40000
  rotate_left
  · rw [decide_eq_false hs0]
    have HS := hid hs0
    clear hs0
    go_wp2
    go_ret3
    exact pa_1 SS.out VV.out (fun e => by have := HS.out; omega) B2.out
  rw [decide_eq_true hs0]
  obtain ⟨s1, s2⟩ := hs0
  go_wp2_with fail
  refine (cin_any wd 0 12000 _).mono ?_
  rintro e w3 ⟨rfl, hb⟩
  have B3 := hid (B2.out.trans (hb.mono B2.out.size))
  have W3 := hid (W2.out.below hb W2.out.lt)
  have F3 := hid (F2.out.below hb F2.out.lt)
  have T3 := hid (T2.out.below hb T2.out.lt)
  have R3 := hid (R2.out.below hb R2.out.lt)
  clear hb
  by_cases hw0 : 0 ≤ wd ∧ wd ≤ 12000
  rotate_left
  · rw [decide_eq_false hw0]
    have HW := hid hw0
    clear hw0
    go_wp2
    go_ret3
    exact pa_1 SS.out VV.out (fun e => by have := HW.out; omega) B3.out
  rw [decide_eq_true hw0]
  obtain ⟨d1, d2⟩ := hw0
  obtain ⟨q, hq⟩ : ∃ q, v * S = q := ⟨_, rfl⟩
  have HQ := hid hq
  rw [hq] at m1 m0 ⊢
  clear hq
  have n1 : q * sp ≤ 86400000000 * 40000 := Int.mul_le_mul (by omega) s2 s1 (by decide)
  have n0 : 0 ≤ q * sp := Int.mul_nonneg m0 s1
  obtain ⟨ln, hln⟩ : ∃ ln, q * sp = ln := ⟨_, rfl⟩
  have HLN := hid hln
  rw [hln] at n1 n0
  have wl : IntKind.i64.wrap ln = ln := IntWalk.i64_in _ (by omega)
  by_cases hL : ln ≤ 17179869184
  rotate_left
  · have hL2 : 17179869184 < ln := by omega
    have HL := hid hL2
    clear hL
    go_wp2
    go_ret3
    exact pa_21 SS.out VV.out ⟨s1, s2⟩ ⟨d1, d2⟩ (by rw [HQ.out, HLN.out]; exact HL.out) B3.out
  have p1 : ln * wd ≤ 17179869184 * 12000 := Int.mul_le_mul hL d2 d1 (by decide)
  have p0 : 0 ≤ ln * wd := Int.mul_nonneg n0 d1
  obtain ⟨ar, har⟩ : ∃ ar, ln * wd = ar := ⟨_, rfl⟩
  have HAR := hid har
  rw [har] at p1 p0
  have wa : IntKind.i64.wrap ar = ar := IntWalk.i64_in _ (by omega)
  obtain ⟨mx, hmx⟩ : ∃ mx, max f.bs t.bs = mx := ⟨_, rfl⟩
  have HMX := hid hmx
  have mx1 : 0 ≤ mx ∧ mx ≤ 1000000 := by omega
  have hL2 : ¬ (17179869184 < ln) := by omega
  have cf := F3.out.cell
  have ct := T3.out.cell
  go_wp2_with fail
  refine (muldiv_any ar mx _ (by omega) mx1).mono ?_
  rintro e w9 ⟨rfl, hb⟩
  have B9 := hid (B3.out.trans (hb.mono B3.out.size))
  clear hb cf ct
  have RES := hid (pa_ok (w := w) (w' := w9) SS.out VV.out (ln := ln) ⟨s1, s2⟩ ⟨d1, d2⟩ (by rw [HQ.out, HLN.out]) hL (by rw [HAR.out, HMX.out]) B9.out)
  go_wp2
  go_ret3
  exact RES.out
set_option linter.unusedSimpArgs false in
set_option maxRecDepth 100000 in
set_option maxHeartbeats 16000000 in
theorem rpaper_any (b m : CP) (cp : Int) (f t : GR) (H M S : Int) (w : World) (sp wd : Int) : Calls Try.prog 22 #[.agg #[.int .i64 b.kp, .int .i64 b.ki, .int .i64 b.sh, .int .i64 b.lo, .int .i64 b.hi, .int .i64 b.rate, .int .i64 b.ga, .int .i64 b.la, .int .i64 b.de, .int .i64 m.kp, .int .i64 m.ki, .int .i64 m.sh, .int .i64 m.lo, .int .i64 m.hi, .int .i64 m.rate, .int .i64 m.ga, .int .i64 m.la, .int .i64 m.de, .int .i64 cp], .agg #[.string f.nm, .int .i64 f.bs, .int .i64 f.bt, .int .i64 f.mo, .int .i64 f.mt, .int .i64 f.ca, .slice f.ra f.rn f.rc, .int .i64 f.pr], .agg #[.string t.nm, .int .i64 t.bs, .int .i64 t.bt, .int .i64 t.mo, .int .i64 t.mt, .int .i64 t.ca, .slice t.ra t.rn t.rc, .int .i64 t.pr], .agg #[.int .i64 H, .int .i64 M, .int .i64 S], .int .i64 sp, .int .i64 wd] w (PaPost b m cp f t H M S sp wd w) := by
  have W0 := hid (Blk.alloc (Blk.alloc (Blk.alloc (Blk.at_new w (b := w.heap.size) (t := 29) (cs := #[.int .i64 b.kp, .int .i64 b.ki, .int .i64 b.sh, .int .i64 b.lo, .int .i64 b.hi, .int .i64 b.rate, .int .i64 b.ga, .int .i64 b.la, .int .i64 b.de, .int .i64 m.kp, .int .i64 m.ki, .int .i64 m.sh, .int .i64 m.lo, .int .i64 m.hi, .int .i64 m.rate, .int .i64 m.ga, .int .i64 m.la, .int .i64 m.de, .int .i64 cp]) rfl) (.cells #[.string f.nm, .int .i64 f.bs, .int .i64 f.bt, .int .i64 f.mo, .int .i64 f.mt, .int .i64 f.ca, .slice f.ra f.rn f.rc, .int .i64 f.pr] 32)) (.cells #[.string t.nm, .int .i64 t.bs, .int .i64 t.bt, .int .i64 t.mo, .int .i64 t.mt, .int .i64 t.ca, .slice t.ra t.rn t.rc, .int .i64 t.pr] 32)) (.cells #[.int .i64 H, .int .i64 M, .int .i64 S] 45))
  have F0 := hid (Blk.alloc (Blk.alloc (Blk.at_new (w.alloc (.cells #[.int .i64 b.kp, .int .i64 b.ki, .int .i64 b.sh, .int .i64 b.lo, .int .i64 b.hi, .int .i64 b.rate, .int .i64 b.ga, .int .i64 b.la, .int .i64 b.de, .int .i64 m.kp, .int .i64 m.ki, .int .i64 m.sh, .int .i64 m.lo, .int .i64 m.hi, .int .i64 m.rate, .int .i64 m.ga, .int .i64 m.la, .int .i64 m.de, .int .i64 cp] 29)) (b := w.heap.size + 1) (t := 32) (cs := #[.string f.nm, .int .i64 f.bs, .int .i64 f.bt, .int .i64 f.mo, .int .i64 f.mt, .int .i64 f.ca, .slice f.ra f.rn f.rc, .int .i64 f.pr]) (by simp)) (.cells #[.string t.nm, .int .i64 t.bs, .int .i64 t.bt, .int .i64 t.mo, .int .i64 t.mt, .int .i64 t.ca, .slice t.ra t.rn t.rc, .int .i64 t.pr] 32)) (.cells #[.int .i64 H, .int .i64 M, .int .i64 S] 45))
  have T0 := hid (Blk.alloc (Blk.at_new ((w.alloc (.cells #[.int .i64 b.kp, .int .i64 b.ki, .int .i64 b.sh, .int .i64 b.lo, .int .i64 b.hi, .int .i64 b.rate, .int .i64 b.ga, .int .i64 b.la, .int .i64 b.de, .int .i64 m.kp, .int .i64 m.ki, .int .i64 m.sh, .int .i64 m.lo, .int .i64 m.hi, .int .i64 m.rate, .int .i64 m.ga, .int .i64 m.la, .int .i64 m.de, .int .i64 cp] 29)).alloc (.cells #[.string f.nm, .int .i64 f.bs, .int .i64 f.bt, .int .i64 f.mo, .int .i64 f.mt, .int .i64 f.ca, .slice f.ra f.rn f.rc, .int .i64 f.pr] 32)) (b := w.heap.size + 1 + 1) (t := 32) (cs := #[.string t.nm, .int .i64 t.bs, .int .i64 t.bt, .int .i64 t.mo, .int .i64 t.mt, .int .i64 t.ca, .slice t.ra t.rn t.rc, .int .i64 t.pr]) (by simp)) (.cells #[.int .i64 H, .int .i64 M, .int .i64 S] 45))
  have R0 := hid (Blk.at_new (((w.alloc (.cells #[.int .i64 b.kp, .int .i64 b.ki, .int .i64 b.sh, .int .i64 b.lo, .int .i64 b.hi, .int .i64 b.rate, .int .i64 b.ga, .int .i64 b.la, .int .i64 b.de, .int .i64 m.kp, .int .i64 m.ki, .int .i64 m.sh, .int .i64 m.lo, .int .i64 m.hi, .int .i64 m.rate, .int .i64 m.ga, .int .i64 m.la, .int .i64 m.de, .int .i64 cp] 29)).alloc (.cells #[.string f.nm, .int .i64 f.bs, .int .i64 f.bt, .int .i64 f.mo, .int .i64 f.mt, .int .i64 f.ca, .slice f.ra f.rn f.rc, .int .i64 f.pr] 32)).alloc (.cells #[.string t.nm, .int .i64 t.bs, .int .i64 t.bt, .int .i64 t.mo, .int .i64 t.mt, .int .i64 t.ca, .slice t.ra t.rn t.rc, .int .i64 t.pr] 32)) (b := w.heap.size + 1 + 1 + 1) (t := 45) (cs := #[.int .i64 H, .int .i64 M, .int .i64 S]) (by simp))
  have B0 := hid (((((Below.refl w.heap.size w).alloc (Nat.le_refl _) (.cells #[.int .i64 b.kp, .int .i64 b.ki, .int .i64 b.sh, .int .i64 b.lo, .int .i64 b.hi, .int .i64 b.rate, .int .i64 b.ga, .int .i64 b.la, .int .i64 b.de, .int .i64 m.kp, .int .i64 m.ki, .int .i64 m.sh, .int .i64 m.lo, .int .i64 m.hi, .int .i64 m.rate, .int .i64 m.ga, .int .i64 m.la, .int .i64 m.de, .int .i64 cp] 29)).alloc (by simp) (.cells #[.string f.nm, .int .i64 f.bs, .int .i64 f.bt, .int .i64 f.mo, .int .i64 f.mt, .int .i64 f.ca, .slice f.ra f.rn f.rc, .int .i64 f.pr] 32)).alloc (by simp <;> omega) (.cells #[.string t.nm, .int .i64 t.bs, .int .i64 t.bt, .int .i64 t.mo, .int .i64 t.mt, .int .i64 t.ca, .slice t.ra t.rn t.rc, .int .i64 t.pr] 32)).alloc (by simp <;> omega) (.cells #[.int .i64 H, .int .i64 M, .int .i64 S] 45))
  go_enter Try.func22, Try.ntmps22
  go_wp2_with (first | (refine wpList_load_blk2 (t := 29) rfl rfl rfl Try.underlying29 rfl (by kernel_rfl) W0.out ?_) | (refine wpList_load_blk2 (t := 32) rfl rfl rfl Try.underlying32 rfl (by kernel_rfl) F0.out ?_) | (refine wpList_load_blk2 (t := 32) rfl rfl rfl Try.underlying32 rfl (by kernel_rfl) T0.out ?_) | (refine wpList_load_blk2 (t := 45) rfl rfl rfl Try.underlying45 rfl (by kernel_rfl) R0.out ?_))
  refine (rsecs_any b m cp f t H M S _).mono ?_
  rintro e w1 ⟨v, er, rfl, hs, hv, hb⟩
  have SS := hid hs
  have VV := hid hv
  obtain ⟨v1, v2⟩ := hv
  have B1 := hid (B0.out.trans (hb.mono B0.out.size))
  have W1 := hid (W0.out.below hb W0.out.lt)
  have F1 := hid (F0.out.below hb F0.out.lt)
  have T1 := hid (T0.out.below hb T0.out.lt)
  have R1 := hid (R0.out.below hb R0.out.lt)
  clear hb
  clear hs
  by_cases he : er = 0
  rotate_left
  · rw [if_neg he]
    have HE := hid he
    have hz2 : (er != 0) = true := by simpa using he
    clear he
    go_wp2
    go_ret3
    exact pa_e SS.out VV.out HE.out B1.out
  subst he
  rw [if_pos rfl]
  obtain ⟨r5, r6⟩ := ss_rule SS.out
  obtain ⟨⟨f1, f2⟩, t1, t2⟩ := ss_fit SS.out
  have m1 : v * S ≤ 1000000 * 86400 := Int.mul_le_mul v2 r6 (by omega) (by decide)
  have m0 : 0 ≤ v * S := Int.mul_nonneg v1 (by omega)
  by_cases hs0 : 0 ≤ sp ∧ sp ≤ 40000
  rotate_left
  · have HS := hid hs0
    have hq : sp < 0 ∨ (0 ≤ sp ∧ 40000 < sp) := by omega
    clear hs0
    rcases hq with h | ⟨h, h1⟩
    all_goals
      go_wp2
      go_ret3
      exact pa_1 SS.out VV.out (fun e => by have := HS.out; omega) B1.out
  by_cases hw0 : 0 ≤ wd ∧ wd ≤ 12000
  rotate_left
  · have HW := hid hw0
    have hq : wd < 0 ∨ (0 ≤ wd ∧ 12000 < wd) := by omega
    obtain ⟨s1, s2⟩ := hs0
    clear hw0
    rcases hq with h | ⟨h, h1⟩
    all_goals
      go_wp2
      go_ret3
      exact pa_1 SS.out VV.out (fun e => by have := HW.out; omega) B1.out
  obtain ⟨s1, s2⟩ := hs0
  obtain ⟨d1, d2⟩ := hw0
  obtain ⟨q, hq⟩ : ∃ q, v * S = q := ⟨_, rfl⟩
  have HQ := hid hq
  rw [hq] at m1 m0 ⊢
  clear hq
  have n1 : q * sp ≤ 86400000000 * 40000 := Int.mul_le_mul (by omega) s2 s1 (by decide)
  have n0 : 0 ≤ q * sp := Int.mul_nonneg m0 s1
  obtain ⟨ln, hln⟩ : ∃ ln, q * sp = ln := ⟨_, rfl⟩
  have HLN := hid hln
  rw [hln] at n1 n0
  have wl : IntKind.i64.wrap ln = ln := IntWalk.i64_in _ (by omega)
  by_cases hL : ln ≤ 17179869184
  rotate_left
  · have hL2 : 17179869184 < ln := by omega
    have HL := hid hL2
    clear hL
    go_wp2
    go_ret3
    exact pa_21 SS.out VV.out ⟨s1, s2⟩ ⟨d1, d2⟩ (by rw [HQ.out, HLN.out]; exact HL.out) B1.out
  have p1 : ln * wd ≤ 17179869184 * 12000 := Int.mul_le_mul hL d2 d1 (by decide)
  have p0 : 0 ≤ ln * wd := Int.mul_nonneg n0 d1
  obtain ⟨ar, har⟩ : ∃ ar, ln * wd = ar := ⟨_, rfl⟩
  have HAR := hid har
  rw [har] at p1 p0
  have wa : IntKind.i64.wrap ar = ar := IntWalk.i64_in _ (by omega)
  obtain ⟨mx, hmx⟩ : ∃ mx, max f.bs t.bs = mx := ⟨_, rfl⟩
  have HMX := hid hmx
  have mx1 : 0 ≤ mx ∧ mx ≤ 1000000 := by omega
  have hL2 : ¬ (17179869184 < ln) := by omega
  have cf := F1.out.cell
  have ct := T1.out.cell
  go_wp2_with fail
  refine (rnearest_any ar mx _ (by omega) mx1).mono ?_
  rintro e w9 ⟨rfl, hb⟩
  have B9 := hid (B1.out.trans (hb.mono B1.out.size))
  clear hb cf ct
  have RES := hid (pa_ok (w := w) (w' := w9) SS.out VV.out (ln := ln) ⟨s1, s2⟩ ⟨d1, d2⟩ (by rw [HQ.out, HLN.out]) hL (by rw [HAR.out, HMX.out]) B9.out)
  go_wp2
  go_ret3
  exact RES.out
end Go.Proofs.Ytddphdkhaaolmaa
