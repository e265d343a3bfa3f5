/- ChangeNone: for every input the law returns true. No condition. -/
import Derived.Test.YtddphdkhaaolmaaCShort
import Derived.Test.YtddphdkhaaolmaaCNonePlain
namespace Go.Proofs.Ytddphdkhaaolmaa
open Go.RowKit

set_option linter.unusedSimpArgs false in
set_option maxRecDepth 100000 in
set_option maxHeartbeats 16000000 in
theorem changeNone_in (b m : CP) (cp : Int) (f t : GR) (H M S : Int) (w : World) (hn1 : f.rn ≤ maxLen ∧ f.nm.size ≤ maxLen) (hn2 : t.rn ≤ maxLen ∧ t.nm.size ≤ maxLen) : Calls Try.prog 8 #[.agg #[.int .i64 b.kp, .int .i64 b.ki, .int .i64 b.sh, .int .i64 b.lo, .int .i64 b.hi, .int .i64 b.rate, .int .i64 b.ga, .int .i64 b.la, .int .i64 b.de, .int .i64 m.kp, .int .i64 m.ki, .int .i64 m.sh, .int .i64 m.lo, .int .i64 m.hi, .int .i64 m.rate, .int .i64 m.ga, .int .i64 m.la, .int .i64 m.de, .int .i64 cp], .agg #[.string f.nm, .int .i64 f.bs, .int .i64 f.bt, .int .i64 f.mo, .int .i64 f.mt, .int .i64 f.ca, .slice f.ra f.rn f.rc, .int .i64 f.pr, .string t.nm, .int .i64 t.bs, .int .i64 t.bt, .int .i64 t.mo, .int .i64 t.mt, .int .i64 t.ca, .slice t.ra t.rn t.rc, .int .i64 t.pr, .int .i64 H, .int .i64 M, .int .i64 S]] w fun e w' => e = .returned (.bool true) ∧ Below w.heap.size w w' := by
  have W0 := hid (Blk.alloc (Blk.at_new w (b := w.heap.size) (t := 29) (cs := #[.int .i64 b.kp, .int .i64 b.ki, .int .i64 b.sh, .int .i64 b.lo, .int .i64 b.hi, .int .i64 b.rate, .int .i64 b.ga, .int .i64 b.la, .int .i64 b.de, .int .i64 m.kp, .int .i64 m.ki, .int .i64 m.sh, .int .i64 m.lo, .int .i64 m.hi, .int .i64 m.rate, .int .i64 m.ga, .int .i64 m.la, .int .i64 m.de, .int .i64 cp]) rfl) (.cells #[.string f.nm, .int .i64 f.bs, .int .i64 f.bt, .int .i64 f.mo, .int .i64 f.mt, .int .i64 f.ca, .slice f.ra f.rn f.rc, .int .i64 f.pr, .string t.nm, .int .i64 t.bs, .int .i64 t.bt, .int .i64 t.mo, .int .i64 t.mt, .int .i64 t.ca, .slice t.ra t.rn t.rc, .int .i64 t.pr, .int .i64 H, .int .i64 M, .int .i64 S] 36))
  have T0 := hid (Blk.at_new (w.alloc (.cells #[.int .i64 b.kp, .int .i64 b.ki, .int .i64 b.sh, .int .i64 b.lo, .int .i64 b.hi, .int .i64 b.rate, .int .i64 b.ga, .int .i64 b.la, .int .i64 b.de, .int .i64 m.kp, .int .i64 m.ki, .int .i64 m.sh, .int .i64 m.lo, .int .i64 m.hi, .int .i64 m.rate, .int .i64 m.ga, .int .i64 m.la, .int .i64 m.de, .int .i64 cp] 29)) (b := w.heap.size + 1) (t := 36) (cs := #[.string f.nm, .int .i64 f.bs, .int .i64 f.bt, .int .i64 f.mo, .int .i64 f.mt, .int .i64 f.ca, .slice f.ra f.rn f.rc, .int .i64 f.pr, .string t.nm, .int .i64 t.bs, .int .i64 t.bt, .int .i64 t.mo, .int .i64 t.mt, .int .i64 t.ca, .slice t.ra t.rn t.rc, .int .i64 t.pr, .int .i64 H, .int .i64 M, .int .i64 S]) (by simp))
  have B0 := hid (Below.alloc (Below.alloc (Below.refl w.heap.size w) (Nat.le_refl _) (.cells #[.int .i64 b.kp, .int .i64 b.ki, .int .i64 b.sh, .int .i64 b.lo, .int .i64 b.hi, .int .i64 b.rate, .int .i64 b.ga, .int .i64 b.la, .int .i64 b.de, .int .i64 m.kp, .int .i64 m.ki, .int .i64 m.sh, .int .i64 m.lo, .int .i64 m.hi, .int .i64 m.rate, .int .i64 m.ga, .int .i64 m.la, .int .i64 m.de, .int .i64 cp] 29)) (by simp <;> omega) (.cells #[.string f.nm, .int .i64 f.bs, .int .i64 f.bt, .int .i64 f.mo, .int .i64 f.mt, .int .i64 f.ca, .slice f.ra f.rn f.rc, .int .i64 f.pr, .string t.nm, .int .i64 t.bs, .int .i64 t.bt, .int .i64 t.mo, .int .i64 t.mt, .int .i64 t.ca, .slice t.ra t.rn t.rc, .int .i64 t.pr, .int .i64 H, .int .i64 M, .int .i64 S] 36))
  go_enter Try.func8, Try.ntmps8
  go_wp2_with (first | (refine wpList_load_blk2 (t := 29) rfl rfl rfl Try.underlying29 rfl (by kernel_rfl) W0.out ?_) | (refine wpList_load_blk2 (t := 36) rfl rfl rfl Try.underlying36 rfl (by kernel_rfl) T0.out ?_) | (refine wpList_load_part (l := #[.string f.nm, .int .i64 f.bs, .int .i64 f.bt, .int .i64 f.mo, .int .i64 f.mt, .int .i64 f.ca, .slice f.ra f.rn f.rc, .int .i64 f.pr]) (o := 0) T0.out (by intro j v hj; match j, hj with | 0, hj => (simpa using hj) | 1, hj => (simpa using hj) | 2, hj => (simpa using hj) | 3, hj => (simpa using hj) | 4, hj => (simpa using hj) | 5, hj => (simpa using hj) | 6, hj => (simpa using hj) | 7, hj => (simpa using hj) | j + 8, hj => simp at hj) Try.underlying32 rfl (by kernel_rfl) rfl rfl rfl ?_) | (refine wpList_load_part (l := #[.string t.nm, .int .i64 t.bs, .int .i64 t.bt, .int .i64 t.mo, .int .i64 t.mt, .int .i64 t.ca, .slice t.ra t.rn t.rc, .int .i64 t.pr]) (o := 8) T0.out (by intro j v hj; match j, hj with | 0, hj => (simpa using hj) | 1, hj => (simpa using hj) | 2, hj => (simpa using hj) | 3, hj => (simpa using hj) | 4, hj => (simpa using hj) | 5, hj => (simpa using hj) | 6, hj => (simpa using hj) | 7, hj => (simpa using hj) | j + 8, hj => simp at hj) Try.underlying32 rfl (by kernel_rfl) rfl rfl rfl ?_) | (refine wpList_load_part (l := #[.int .i64 H, .int .i64 M, .int .i64 S]) (o := 16) T0.out (by intro j v hj; match j, hj with | 0, hj => (simpa using hj) | 1, hj => (simpa using hj) | 2, hj => (simpa using hj) | j + 3, hj => simp at hj) Try.underlying34 rfl (by kernel_rfl) rfl rfl rfl ?_))
  refine (short_any f t H M S _ hn1 hn2).mono ?_
  rintro e w1 ⟨rfl, hb⟩
  have B1 := hid (B0.out.trans (hb.mono B0.out.size))
  have W1 := hid (W0.out.below hb W0.out.lt)
  have T1 := hid (T0.out.below hb T0.out.lt)
  clear hb
  obtain ⟨sh, hsh⟩ : ∃ sh, shortB f t = sh := ⟨_, rfl⟩
  rw [hsh]
  clear hsh
  cases sh with
  | false =>
    go_wp2_with fail
    refine (awake_any _).mono ?_
    rintro e wz ⟨rfl, hb⟩
    go_wp2
    go_ret
    exact ⟨rfl, B1.out.trans (hb.mono B1.out.size)⟩
  | true =>
  have c1 := T1.out.cell
  have f1 := T1.out.frozen
  have f2 := (T1.out.set 9 (.int .i64 f.bs)).frozen
  have c2 := (T1.out.set 9 (.int .i64 f.bs)).cell
  go_upto_region 4 with fail
  clear c1 f1 f2 c2
  have T2 := hid (show Blk ((w1.setCell ⟨w.heap.size + 1, 9, none⟩ (.int .i64 f.bs)).setCell ⟨w.heap.size + 1, 11, none⟩ (.int .i64 f.mo)) (w.heap.size + 1) 36 #[.string f.nm, .int .i64 f.bs, .int .i64 f.bt, .int .i64 f.mo, .int .i64 f.mt, .int .i64 f.ca, .slice f.ra f.rn f.rc, .int .i64 f.pr, .string t.nm, .int .i64 f.bs, .int .i64 t.bt, .int .i64 f.mo, .int .i64 t.mt, .int .i64 t.ca, .slice t.ra t.rn t.rc, .int .i64 t.pr, .int .i64 H, .int .i64 M, .int .i64 S] from (T1.out.set 9 (.int .i64 f.bs)).set 11 (.int .i64 f.mo))
  have W2 := hid (Blk.other (Blk.other W1.out (a := ⟨w.heap.size + 1, 9, none⟩) (show w.heap.size ≠ w.heap.size + 1 by omega) (.int .i64 f.bs)) (a := ⟨w.heap.size + 1, 11, none⟩) (show w.heap.size ≠ w.heap.size + 1 by omega) (.int .i64 f.mo))
  have B2 := hid ((((Chg.refl (fun g => g = w.heap.size + 1) w1).setCell (a := ⟨w.heap.size + 1, 9, none⟩) (.inl rfl) (.int .i64 f.bs)).setCell (a := ⟨w.heap.size + 1, 11, none⟩) (.inl rfl) (.int .i64 f.mo)).then_below B1.out (fun b hb e => by omega) B1.out.size)
  clear W0 T0 B0 W1 T1 B1
  generalize ((w1.setCell ⟨w.heap.size + 1, 9, none⟩ (.int .i64 f.bs)).setCell ⟨w.heap.size + 1, 11, none⟩ (.int .i64 f.mo)) = w2 at *
  have R3 := hid (Blk.at_new w2 (b := w2.heap.size) (t := 60) (cs := #[.int .i64 f.bs, .int .i64 f.mo]) rfl)
  have W3 := hid (Blk.alloc W2.out (.cells #[.int .i64 f.bs, .int .i64 f.mo] 60))
  have T3 := hid (Blk.alloc T2.out (.cells #[.int .i64 f.bs, .int .i64 f.mo] 60))
  have B3 := hid (B2.out.alloc B2.out.size (.cells #[.int .i64 f.bs, .int .i64 f.mo] 60))
  have c2 := T2.out.cell
  go_wp2_with (first | (refine wpList_load_blk2 (t := 60) rfl rfl rfl Try.underlying60 rfl (by kernel_rfl) R3.out ?_) | (refine wpList_load_blk2 (t := 29) rfl rfl rfl Try.underlying29 rfl (by kernel_rfl) W3.out ?_))
  refine (wrests_any b m cp f.bs f.mo _).mono ?_
  rintro e w4 ⟨oB, oM, vB, vM, er, rfl, hrs, hb⟩
  have B4 := hid (B3.out.trans (hb.mono B3.out.size))
  have W4 := hid (W3.out.below hb W3.out.lt)
  have T4 := hid (T3.out.below hb T3.out.lt)
  have R4 := hid (R3.out.below hb R3.out.lt)
  clear hb c2
  have S5 := hid (Blk.at_new w4 (b := w4.heap.size) (t := 63) (cs := #[.int .i64 oB, .int .i64 oM, .int .i64 vB, .int .i64 vM]) rfl)
  have W5 := hid (Blk.alloc W4.out (.cells #[.int .i64 oB, .int .i64 oM, .int .i64 vB, .int .i64 vM] 63))
  have T5 := hid (Blk.alloc T4.out (.cells #[.int .i64 oB, .int .i64 oM, .int .i64 vB, .int .i64 vM] 63))
  have R5 := hid (Blk.alloc R4.out (.cells #[.int .i64 oB, .int .i64 oM, .int .i64 vB, .int .i64 vM] 63))
  have B5 := hid (B4.out.alloc B4.out.size (.cells #[.int .i64 oB, .int .i64 oM, .int .i64 vB, .int .i64 vM] 63))
  have RS := hid hrs
  clear hrs W2 T2 W3 T3 R3 W4 T4 R4
  go_wp2_with (first | (refine wpList_load_blk2 (t := 29) rfl rfl rfl Try.underlying29 rfl (by kernel_rfl) W5.out ?_) | (refine wpList_load_part (l := #[.string f.nm, .int .i64 f.bs, .int .i64 f.bt, .int .i64 f.mo, .int .i64 f.mt, .int .i64 f.ca, .slice f.ra f.rn f.rc, .int .i64 f.pr]) (o := 0) T5.out (by intro j v hj; match j, hj with | 0, hj => (simpa using hj) | 1, hj => (simpa using hj) | 2, hj => (simpa using hj) | 3, hj => (simpa using hj) | 4, hj => (simpa using hj) | 5, hj => (simpa using hj) | 6, hj => (simpa using hj) | 7, hj => (simpa using hj) | j + 8, hj => simp at hj) Try.underlying32 rfl (by kernel_rfl) rfl rfl rfl ?_) | (refine wpList_load_part (l := #[.string t.nm, .int .i64 f.bs, .int .i64 t.bt, .int .i64 f.mo, .int .i64 t.mt, .int .i64 t.ca, .slice t.ra t.rn t.rc, .int .i64 t.pr]) (o := 8) T5.out (by intro j v hj; match j, hj with | 0, hj => (simpa using hj) | 1, hj => (simpa using hj) | 2, hj => (simpa using hj) | 3, hj => (simpa using hj) | 4, hj => (simpa using hj) | 5, hj => (simpa using hj) | 6, hj => (simpa using hj) | 7, hj => (simpa using hj) | j + 8, hj => simp at hj) Try.underlying32 rfl (by kernel_rfl) rfl rfl rfl ?_) | (refine wpList_load_part (l := #[.int .i64 H, .int .i64 M, .int .i64 S]) (o := 16) T5.out (by intro j v hj; match j, hj with | 0, hj => (simpa using hj) | 1, hj => (simpa using hj) | 2, hj => (simpa using hj) | j + 3, hj => simp at hj) Try.underlying34 rfl (by kernel_rfl) rfl rfl rfl ?_))
  refine (steps_any b m cp f ⟨t.nm, f.bs, t.bt, f.mo, t.mt, t.ca, t.ra, t.rn, t.rc, t.pr⟩ H M S _).mono ?_
  rintro e w6 ⟨v, er2, rfl, hs, _, hb⟩
  have B6 := hid (B5.out.trans (hb.mono B5.out.size))
  have T6 := hid (T5.out.below hb T5.out.lt)
  have R6 := hid (R5.out.below hb R5.out.lt)
  have S6 := hid (S5.out.below hb S5.out.lt)
  have SS := hid hs
  clear hb hs W5 T5 R5 S5
  have cs := S6.out.cell
  have cr := R6.out.cell
  have ct := T6.out.cell
  by_cases he : er = 0
  rotate_left
  · have hz2 : (er != 0) = true := by simpa using he
    clear he
    go_wp2_with fail
    refine (awake_any _).mono ?_
    rintro e wz ⟨rfl, hb⟩
    go_wp2
    go_ret
    exact ⟨rfl, B6.out.trans (hb.mono B6.out.size)⟩
  subst he
  by_cases hv1 : vB = f.bs
  rotate_left
  · clear SS RS
    go_wp2_with fail
    refine (awake_any _).mono ?_
    rintro e wz ⟨rfl, hb⟩
    go_wp2
    go_ret
    exact ⟨rfl, B6.out.trans (hb.mono B6.out.size)⟩
  by_cases hv2 : vM = f.mo
  rotate_left
  · clear SS RS
    go_wp2_with fail
    refine (awake_any _).mono ?_
    rintro e wz ⟨rfl, hb⟩
    go_wp2
    go_ret
    exact ⟨rfl, B6.out.trans (hb.mono B6.out.size)⟩
  subst hv1 hv2
  by_cases h3 : 0 ≤ t.bt
  rotate_left
  · clear SS RS
    go_wp2_with fail
    refine (awake_any _).mono ?_
    rintro e wz ⟨rfl, hb⟩
    go_wp2
    go_ret
    exact ⟨rfl, B6.out.trans (hb.mono B6.out.size)⟩
  by_cases h4 : 0 ≤ t.mt
  rotate_left
  · clear SS RS
    go_wp2_with fail
    refine (awake_any _).mono ?_
    rintro e wz ⟨rfl, hb⟩
    go_wp2
    go_ret
    exact ⟨rfl, B6.out.trans (hb.mono B6.out.size)⟩
  go_wp2_with fail
  refine (gcheck_any H M S _).mono ?_
  rintro e w7 ⟨rfl, hb⟩
  have B7 := hid (B6.out.trans (hb.mono B6.out.size))
  have T7 := hid (T6.out.below hb T6.out.lt)
  have R7 := hid (R6.out.below hb R6.out.lt)
  clear hb cs cr ct
  have cr := R7.out.cell
  have ct := T7.out.cell
  by_cases hru : ruErr H M S = 0
  rotate_left
  · have hz2 : (ruErr H M S != 0) = true := by simpa using hru
    clear hru SS RS
    go_wp2_with fail
    refine (awake_any _).mono ?_
    rintro e wz ⟨rfl, hb⟩
    go_wp2
    go_ret
    exact ⟨rfl, B7.out.trans (hb.mono B7.out.size)⟩
  rw [hru]
  by_cases hf : fitB f = true
  rotate_left
  · have hf2 : fitB f = false := by simpa using hf
    clear SS RS hru hf
    rcases fit_no hf2 with h | ⟨h, h1⟩ | ⟨⟨h, h1⟩, h2⟩ | ⟨⟨h, h1⟩, h2, h3⟩
    all_goals
      clear hf2
      go_wp2_with fail
      refine (awake_any _).mono ?_
      rintro e wz ⟨rfl, hb⟩
      go_wp2
      go_ret
      exact ⟨rfl, B7.out.trans (hb.mono B7.out.size)⟩
  obtain ⟨n1, n2⟩ := none_steps (t := ⟨t.nm, f.bs, t.bt, f.mo, t.mt, t.ca, t.ra, t.rn, t.rc, t.pr⟩) RS.out rfl rfl h3 h4 hru hf SS.out
  obtain ⟨⟨f1, f2⟩, f3, f4⟩ := fit_yes hf
  clear SS RS hru hf
  by_cases hHM : M < H
  · obtain ⟨rfl, rfl⟩ := n1 hHM
    clear n1 n2
    go_wp2_with fail
    refine (awake_any _).mono ?_
    rintro e wz ⟨rfl, hb⟩
    go_wp2
    go_ret
    exact ⟨rfl, B7.out.trans (hb.mono B7.out.size)⟩
  · obtain ⟨rfl, rfl⟩ := n2 (by omega)
    clear n1 n2
    go_wp2_with fail
    refine (awake_any _).mono ?_
    rintro e wz ⟨rfl, hb⟩
    go_wp2
    go_ret
    exact ⟨rfl, B7.out.trans (hb.mono B7.out.size)⟩
theorem changeNone_walk (x0 : Int) (x1 : Int) (x2 : Int) (x3 : Int) (x4 : Int) (x5 : Int) (x6 : Int) (x7 : Int) (x8 : Int) (x9 : Int) (x10 : Int) (x11 : Int) (x12 : Int) (x13 : Int) (x14 : Int) (x15 : Int) (x16 : Int) (x17 : Int) (x18 : Int) (x19 : ByteArray) (x20 : Int) (x21 : Int) (x22 : Int) (x23 : Int) (x24 : Int) (a25 : Option Addr) (c25 : Nat) (x25 : List Int) (x26 : Int) (x27 : ByteArray) (x28 : Int) (x29 : Int) (x30 : Int) (x31 : Int) (x32 : Int) (a33 : Option Addr) (c33 : Nat) (x33 : List Int) (x34 : Int) (x35 : Int) (x36 : Int) (x37 : Int) (w : World) (_h0 : (Lit.int .i64 x0).wf = true) (_h1 : (Lit.int .i64 x1).wf = true) (_h2 : (Lit.int .i64 x2).wf = true) (_h3 : (Lit.int .i64 x3).wf = true) (_h4 : (Lit.int .i64 x4).wf = true) (_h5 : (Lit.int .i64 x5).wf = true) (_h6 : (Lit.int .i64 x6).wf = true) (_h7 : (Lit.int .i64 x7).wf = true) (_h8 : (Lit.int .i64 x8).wf = true) (_h9 : (Lit.int .i64 x9).wf = true) (_h10 : (Lit.int .i64 x10).wf = true) (_h11 : (Lit.int .i64 x11).wf = true) (_h12 : (Lit.int .i64 x12).wf = true) (_h13 : (Lit.int .i64 x13).wf = true) (_h14 : (Lit.int .i64 x14).wf = true) (_h15 : (Lit.int .i64 x15).wf = true) (_h16 : (Lit.int .i64 x16).wf = true) (_h17 : (Lit.int .i64 x17).wf = true) (_h18 : (Lit.int .i64 x18).wf = true) (h19 : x19.size ≤ maxLen) (_h20 : (Lit.int .i64 x20).wf = true) (_h21 : (Lit.int .i64 x21).wf = true) (_h22 : (Lit.int .i64 x22).wf = true) (_h23 : (Lit.int .i64 x23).wf = true) (_h24 : (Lit.int .i64 x24).wf = true) (_h25 : Rds Nn w 1 a25 x25.length (ints x25)) (g25 : x25.length ≤ c25 ∧ c25 ≤ maxLen ∧ (a25 = none → x25.length = 0 ∧ c25 = 0)) (_i25 : ∀ n ∈ x25, (Lit.int .i64 n).wf = true) (_h26 : (Lit.int .i64 x26).wf = true) (h27 : x27.size ≤ maxLen) (_h28 : (Lit.int .i64 x28).wf = true) (_h29 : (Lit.int .i64 x29).wf = true) (_h30 : (Lit.int .i64 x30).wf = true) (_h31 : (Lit.int .i64 x31).wf = true) (_h32 : (Lit.int .i64 x32).wf = true) (_h33 : Rds Nn w 1 a33 x33.length (ints x33)) (g33 : x33.length ≤ c33 ∧ c33 ≤ maxLen ∧ (a33 = none → x33.length = 0 ∧ c33 = 0)) (_i33 : ∀ n ∈ x33, (Lit.int .i64 n).wf = true) (_h34 : (Lit.int .i64 x34).wf = true) (_h35 : (Lit.int .i64 x35).wf = true) (_h36 : (Lit.int .i64 x36).wf = true) (_h37 : (Lit.int .i64 x37).wf = true) :
    Calls Try.prog 8 #[.agg #[.int .i64 x0, .int .i64 x1, .int .i64 x2, .int .i64 x3, .int .i64 x4, .int .i64 x5, .int .i64 x6, .int .i64 x7, .int .i64 x8, .int .i64 x9, .int .i64 x10, .int .i64 x11, .int .i64 x12, .int .i64 x13, .int .i64 x14, .int .i64 x15, .int .i64 x16, .int .i64 x17, .int .i64 x18], .agg #[.string x19, .int .i64 x20, .int .i64 x21, .int .i64 x22, .int .i64 x23, .int .i64 x24, .slice a25 x25.length c25, .int .i64 x26, .string x27, .int .i64 x28, .int .i64 x29, .int .i64 x30, .int .i64 x31, .int .i64 x32, .slice a33 x33.length c33, .int .i64 x34, .int .i64 x35, .int .i64 x36, .int .i64 x37]] w fun e w' => e = .returned (.bool true) ∧ Below w.heap.size w w' := by
  exact changeNone_in ⟨x0, x1, x2, x3, x4, x5, x6, x7, x8⟩ ⟨x9, x10, x11, x12, x13, x14, x15, x16, x17⟩ x18 ⟨x19, x20, x21, x22, x23, x24, a25, _, c25, x26⟩ ⟨x27, x28, x29, x30, x31, x32, a33, _, c33, x34⟩ x35 x36 x37 w ⟨Nat.le_trans g25.1 g25.2.1, h19⟩ ⟨Nat.le_trans g33.1 g33.2.1, h27⟩
end Go.Proofs.Ytddphdkhaaolmaa
