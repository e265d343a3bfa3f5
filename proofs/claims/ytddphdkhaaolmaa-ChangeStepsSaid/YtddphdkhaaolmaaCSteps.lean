/- ChangeSteps: for every input the law returns true. No condition. -/
import Derived.Test.YtddphdkhaaolmaaCShort
namespace Go.Proofs.Ytddphdkhaaolmaa
open Go.RowKit

set_option linter.unusedSimpArgs false in
set_option maxRecDepth 100000 in
set_option maxHeartbeats 16000000 in
theorem changeSteps_in (b m : CP) (cp : Int) (f t : GR) (H M S : Int) (w : World) (hn1 : f.rn ≤ maxLen ∧ f.nm.size ≤ maxLen) (hn2 : t.rn ≤ maxLen ∧ t.nm.size ≤ maxLen) : Calls Try.prog 4 #[.agg #[.int .i64 b.kp, .int .i64 b.ki, .int .i64 b.sh, .int .i64 b.lo, .int .i64 b.hi, .int .i64 b.rate, .int .i64 b.ga, .int .i64 b.la, .int .i64 b.de, .int .i64 m.kp, .int .i64 m.ki, .int .i64 m.sh, .int .i64 m.lo, .int .i64 m.hi, .int .i64 m.rate, .int .i64 m.ga, .int .i64 m.la, .int .i64 m.de, .int .i64 cp], .agg #[.string f.nm, .int .i64 f.bs, .int .i64 f.bt, .int .i64 f.mo, .int .i64 f.mt, .int .i64 f.ca, .slice f.ra f.rn f.rc, .int .i64 f.pr, .string t.nm, .int .i64 t.bs, .int .i64 t.bt, .int .i64 t.mo, .int .i64 t.mt, .int .i64 t.ca, .slice t.ra t.rn t.rc, .int .i64 t.pr, .int .i64 H, .int .i64 M, .int .i64 S]] w fun e w' => e = .returned (.bool true) ∧ Below w.heap.size w w' := by
  have W0 := hid (Blk.alloc (Blk.at_new w (b := w.heap.size) (t := 29) (cs := #[.int .i64 b.kp, .int .i64 b.ki, .int .i64 b.sh, .int .i64 b.lo, .int .i64 b.hi, .int .i64 b.rate, .int .i64 b.ga, .int .i64 b.la, .int .i64 b.de, .int .i64 m.kp, .int .i64 m.ki, .int .i64 m.sh, .int .i64 m.lo, .int .i64 m.hi, .int .i64 m.rate, .int .i64 m.ga, .int .i64 m.la, .int .i64 m.de, .int .i64 cp]) rfl) (.cells #[.string f.nm, .int .i64 f.bs, .int .i64 f.bt, .int .i64 f.mo, .int .i64 f.mt, .int .i64 f.ca, .slice f.ra f.rn f.rc, .int .i64 f.pr, .string t.nm, .int .i64 t.bs, .int .i64 t.bt, .int .i64 t.mo, .int .i64 t.mt, .int .i64 t.ca, .slice t.ra t.rn t.rc, .int .i64 t.pr, .int .i64 H, .int .i64 M, .int .i64 S] 36))
  have T0 := hid (Blk.at_new (w.alloc (.cells #[.int .i64 b.kp, .int .i64 b.ki, .int .i64 b.sh, .int .i64 b.lo, .int .i64 b.hi, .int .i64 b.rate, .int .i64 b.ga, .int .i64 b.la, .int .i64 b.de, .int .i64 m.kp, .int .i64 m.ki, .int .i64 m.sh, .int .i64 m.lo, .int .i64 m.hi, .int .i64 m.rate, .int .i64 m.ga, .int .i64 m.la, .int .i64 m.de, .int .i64 cp] 29)) (b := w.heap.size + 1) (t := 36) (cs := #[.string f.nm, .int .i64 f.bs, .int .i64 f.bt, .int .i64 f.mo, .int .i64 f.mt, .int .i64 f.ca, .slice f.ra f.rn f.rc, .int .i64 f.pr, .string t.nm, .int .i64 t.bs, .int .i64 t.bt, .int .i64 t.mo, .int .i64 t.mt, .int .i64 t.ca, .slice t.ra t.rn t.rc, .int .i64 t.pr, .int .i64 H, .int .i64 M, .int .i64 S]) (by simp))
  have B0 := hid (Below.alloc (Below.alloc (Below.refl w.heap.size w) (Nat.le_refl _) (.cells #[.int .i64 b.kp, .int .i64 b.ki, .int .i64 b.sh, .int .i64 b.lo, .int .i64 b.hi, .int .i64 b.rate, .int .i64 b.ga, .int .i64 b.la, .int .i64 b.de, .int .i64 m.kp, .int .i64 m.ki, .int .i64 m.sh, .int .i64 m.lo, .int .i64 m.hi, .int .i64 m.rate, .int .i64 m.ga, .int .i64 m.la, .int .i64 m.de, .int .i64 cp] 29)) (by simp <;> omega) (.cells #[.string f.nm, .int .i64 f.bs, .int .i64 f.bt, .int .i64 f.mo, .int .i64 f.mt, .int .i64 f.ca, .slice f.ra f.rn f.rc, .int .i64 f.pr, .string t.nm, .int .i64 t.bs, .int .i64 t.bt, .int .i64 t.mo, .int .i64 t.mt, .int .i64 t.ca, .slice t.ra t.rn t.rc, .int .i64 t.pr, .int .i64 H, .int .i64 M, .int .i64 S] 36))
  go_enter Try.func4, Try.ntmps4
  go_wp2_with (first | (refine wpList_load_blk2 (t := 29) rfl rfl rfl Try.underlying29 rfl (by kernel_rfl) W0.out ?_) | (refine wpList_load_blk2 (t := 36) rfl rfl rfl Try.underlying36 rfl (by kernel_rfl) T0.out ?_) | (refine wpList_load_part (l := #[.string f.nm, .int .i64 f.bs, .int .i64 f.bt, .int .i64 f.mo, .int .i64 f.mt, .int .i64 f.ca, .slice f.ra f.rn f.rc, .int .i64 f.pr]) (o := 0) T0.out (by intro j v hj; match j, hj with | 0, hj => (simpa using hj) | 1, hj => (simpa using hj) | 2, hj => (simpa using hj) | 3, hj => (simpa using hj) | 4, hj => (simpa using hj) | 5, hj => (simpa using hj) | 6, hj => (simpa using hj) | 7, hj => (simpa using hj) | j + 8, hj => simp at hj) Try.underlying32 rfl (by kernel_rfl) rfl rfl rfl ?_) | (refine wpList_load_part (l := #[.string t.nm, .int .i64 t.bs, .int .i64 t.bt, .int .i64 t.mo, .int .i64 t.mt, .int .i64 t.ca, .slice t.ra t.rn t.rc, .int .i64 t.pr]) (o := 8) T0.out (by intro j v hj; match j, hj with | 0, hj => (simpa using hj) | 1, hj => (simpa using hj) | 2, hj => (simpa using hj) | 3, hj => (simpa using hj) | 4, hj => (simpa using hj) | 5, hj => (simpa using hj) | 6, hj => (simpa using hj) | 7, hj => (simpa using hj) | j + 8, hj => simp at hj) Try.underlying32 rfl (by kernel_rfl) rfl rfl rfl ?_) | (refine wpList_load_part (l := #[.int .i64 H, .int .i64 M, .int .i64 S]) (o := 16) T0.out (by intro j v hj; match j, hj with | 0, hj => (simpa using hj) | 1, hj => (simpa using hj) | 2, hj => (simpa using hj) | j + 3, hj => simp at hj) Try.underlying34 rfl (by kernel_rfl) rfl rfl rfl ?_))
  refine (short_any f t H M S _ hn1 hn2).mono ?_
  rintro e w1 ⟨rfl, hb⟩
  have B1 := hid (B0.out.trans (hb.mono B0.out.size))
  have W1 := hid (W0.out.below hb W0.out.lt)
  have T1 := hid (T0.out.below hb T0.out.lt)
  clear hb
  obtain ⟨sh, hsh⟩ : ∃ sh, shortB f t = sh := ⟨_, rfl⟩
  rw [hsh]
  clear hsh
  cases sh with
  | false =>
    go_wp2_with fail
    refine (awake_any _).mono ?_
    rintro e wz ⟨rfl, hb⟩
    go_wp2
    go_ret
    exact ⟨rfl, B1.out.trans (hb.mono B1.out.size)⟩
  | true =>
  go_wp2_with (first | (refine wpList_load_blk2 (t := 29) rfl rfl rfl Try.underlying29 rfl (by kernel_rfl) W1.out ?_) | (refine wpList_load_blk2 (t := 36) rfl rfl rfl Try.underlying36 rfl (by kernel_rfl) T1.out ?_) | (refine wpList_load_part (l := #[.string f.nm, .int .i64 f.bs, .int .i64 f.bt, .int .i64 f.mo, .int .i64 f.mt, .int .i64 f.ca, .slice f.ra f.rn f.rc, .int .i64 f.pr]) (o := 0) T1.out (by intro j v hj; match j, hj with | 0, hj => (simpa using hj) | 1, hj => (simpa using hj) | 2, hj => (simpa using hj) | 3, hj => (simpa using hj) | 4, hj => (simpa using hj) | 5, hj => (simpa using hj) | 6, hj => (simpa using hj) | 7, hj => (simpa using hj) | j + 8, hj => simp at hj) Try.underlying32 rfl (by kernel_rfl) rfl rfl rfl ?_) | (refine wpList_load_part (l := #[.string t.nm, .int .i64 t.bs, .int .i64 t.bt, .int .i64 t.mo, .int .i64 t.mt, .int .i64 t.ca, .slice t.ra t.rn t.rc, .int .i64 t.pr]) (o := 8) T1.out (by intro j v hj; match j, hj with | 0, hj => (simpa using hj) | 1, hj => (simpa using hj) | 2, hj => (simpa using hj) | 3, hj => (simpa using hj) | 4, hj => (simpa using hj) | 5, hj => (simpa using hj) | 6, hj => (simpa using hj) | 7, hj => (simpa using hj) | j + 8, hj => simp at hj) Try.underlying32 rfl (by kernel_rfl) rfl rfl rfl ?_) | (refine wpList_load_part (l := #[.int .i64 H, .int .i64 M, .int .i64 S]) (o := 16) T1.out (by intro j v hj; match j, hj with | 0, hj => (simpa using hj) | 1, hj => (simpa using hj) | 2, hj => (simpa using hj) | j + 3, hj => simp at hj) Try.underlying34 rfl (by kernel_rfl) rfl rfl rfl ?_))
  refine (steps_any b m cp f t H M S _).mono ?_
  rintro e w2 ⟨v, er, rfl, hs2, _, hb⟩
  have B2 := hid (B1.out.trans (hb.mono B1.out.size))
  have W2 := hid (W1.out.below hb W1.out.lt)
  have T2 := hid (T1.out.below hb T1.out.lt)
  clear hb
  go_wp2_with (first | (refine wpList_load_blk2 (t := 29) rfl rfl rfl Try.underlying29 rfl (by kernel_rfl) W2.out ?_) | (refine wpList_load_blk2 (t := 36) rfl rfl rfl Try.underlying36 rfl (by kernel_rfl) T2.out ?_) | (refine wpList_load_part (l := #[.string f.nm, .int .i64 f.bs, .int .i64 f.bt, .int .i64 f.mo, .int .i64 f.mt, .int .i64 f.ca, .slice f.ra f.rn f.rc, .int .i64 f.pr]) (o := 0) T2.out (by intro j v hj; match j, hj with | 0, hj => (simpa using hj) | 1, hj => (simpa using hj) | 2, hj => (simpa using hj) | 3, hj => (simpa using hj) | 4, hj => (simpa using hj) | 5, hj => (simpa using hj) | 6, hj => (simpa using hj) | 7, hj => (simpa using hj) | j + 8, hj => simp at hj) Try.underlying32 rfl (by kernel_rfl) rfl rfl rfl ?_) | (refine wpList_load_part (l := #[.string t.nm, .int .i64 t.bs, .int .i64 t.bt, .int .i64 t.mo, .int .i64 t.mt, .int .i64 t.ca, .slice t.ra t.rn t.rc, .int .i64 t.pr]) (o := 8) T2.out (by intro j v hj; match j, hj with | 0, hj => (simpa using hj) | 1, hj => (simpa using hj) | 2, hj => (simpa using hj) | 3, hj => (simpa using hj) | 4, hj => (simpa using hj) | 5, hj => (simpa using hj) | 6, hj => (simpa using hj) | 7, hj => (simpa using hj) | j + 8, hj => simp at hj) Try.underlying32 rfl (by kernel_rfl) rfl rfl rfl ?_) | (refine wpList_load_part (l := #[.int .i64 H, .int .i64 M, .int .i64 S]) (o := 16) T2.out (by intro j v hj; match j, hj with | 0, hj => (simpa using hj) | 1, hj => (simpa using hj) | 2, hj => (simpa using hj) | j + 3, hj => simp at hj) Try.underlying34 rfl (by kernel_rfl) rfl rfl rfl ?_))
  refine (rsteps_any b m cp f t H M S _).mono ?_
  rintro e w3 ⟨v3, er3, rfl, hs3, _, hb⟩
  have B3 := hid (B2.out.trans (hb.mono B2.out.size))
  have W3 := hid (W2.out.below hb W2.out.lt)
  have T3 := hid (T2.out.below hb T2.out.lt)
  clear hb
  obtain ⟨rfl, rfl⟩ := steps_same hs2 hs3
  have SS := hid hs2
  clear hs2 hs3
  go_wp2_with (first | (refine wpList_load_blk2 (t := 29) rfl rfl rfl Try.underlying29 rfl (by kernel_rfl) W3.out ?_) | (refine wpList_load_blk2 (t := 36) rfl rfl rfl Try.underlying36 rfl (by kernel_rfl) T3.out ?_) | (refine wpList_load_part (l := #[.string f.nm, .int .i64 f.bs, .int .i64 f.bt, .int .i64 f.mo, .int .i64 f.mt, .int .i64 f.ca, .slice f.ra f.rn f.rc, .int .i64 f.pr]) (o := 0) T3.out (by intro j v hj; match j, hj with | 0, hj => (simpa using hj) | 1, hj => (simpa using hj) | 2, hj => (simpa using hj) | 3, hj => (simpa using hj) | 4, hj => (simpa using hj) | 5, hj => (simpa using hj) | 6, hj => (simpa using hj) | 7, hj => (simpa using hj) | j + 8, hj => simp at hj) Try.underlying32 rfl (by kernel_rfl) rfl rfl rfl ?_) | (refine wpList_load_part (l := #[.string t.nm, .int .i64 t.bs, .int .i64 t.bt, .int .i64 t.mo, .int .i64 t.mt, .int .i64 t.ca, .slice t.ra t.rn t.rc, .int .i64 t.pr]) (o := 8) T3.out (by intro j v hj; match j, hj with | 0, hj => (simpa using hj) | 1, hj => (simpa using hj) | 2, hj => (simpa using hj) | 3, hj => (simpa using hj) | 4, hj => (simpa using hj) | 5, hj => (simpa using hj) | 6, hj => (simpa using hj) | 7, hj => (simpa using hj) | j + 8, hj => simp at hj) Try.underlying32 rfl (by kernel_rfl) rfl rfl rfl ?_) | (refine wpList_load_part (l := #[.int .i64 H, .int .i64 M, .int .i64 S]) (o := 16) T3.out (by intro j v hj; match j, hj with | 0, hj => (simpa using hj) | 1, hj => (simpa using hj) | 2, hj => (simpa using hj) | j + 3, hj => simp at hj) Try.underlying34 rfl (by kernel_rfl) rfl rfl rfl ?_))
  refine (secs_any b m cp f t H M S _).mono ?_
  rintro e w4 ⟨v4, er4, rfl, hs4, _, hb⟩
  have B4 := hid (B3.out.trans (hb.mono B3.out.size))
  have W4 := hid (W3.out.below hb W3.out.lt)
  have T4 := hid (T3.out.below hb T3.out.lt)
  clear hb
  obtain ⟨rfl, rfl⟩ := steps_same SS.out hs4
  clear hs4
  obtain ⟨sc, hsc⟩ : ∃ sc, (if er = 0 then v * S else 0) = sc := ⟨_, rfl⟩
  rw [hsc]
  have HSC : er = 0 → v * S = sc := fun e => by rw [← hsc, if_pos e]
  have HSD : er ≠ 0 → 0 = sc := fun e => by rw [← hsc, if_neg e]
  clear hsc
  obtain ⟨q1, hq1⟩ : ∃ q : Prop, ((er = 0 → v * S = sc) ∧ (er ≠ 0 → 0 = sc)) = q := ⟨_, rfl⟩
  have HQ : q1 := hq1 ▸ ⟨HSC, HSD⟩
  clear HSC HSD
  have HQQ := hq1.symm
  clear hq1
  go_wp2_with (first | (refine wpList_load_blk2 (t := 29) rfl rfl rfl Try.underlying29 rfl (by kernel_rfl) W4.out ?_) | (refine wpList_load_blk2 (t := 36) rfl rfl rfl Try.underlying36 rfl (by kernel_rfl) T4.out ?_) | (refine wpList_load_part (l := #[.string f.nm, .int .i64 f.bs, .int .i64 f.bt, .int .i64 f.mo, .int .i64 f.mt, .int .i64 f.ca, .slice f.ra f.rn f.rc, .int .i64 f.pr]) (o := 0) T4.out (by intro j v hj; match j, hj with | 0, hj => (simpa using hj) | 1, hj => (simpa using hj) | 2, hj => (simpa using hj) | 3, hj => (simpa using hj) | 4, hj => (simpa using hj) | 5, hj => (simpa using hj) | 6, hj => (simpa using hj) | 7, hj => (simpa using hj) | j + 8, hj => simp at hj) Try.underlying32 rfl (by kernel_rfl) rfl rfl rfl ?_) | (refine wpList_load_part (l := #[.string t.nm, .int .i64 t.bs, .int .i64 t.bt, .int .i64 t.mo, .int .i64 t.mt, .int .i64 t.ca, .slice t.ra t.rn t.rc, .int .i64 t.pr]) (o := 8) T4.out (by intro j v hj; match j, hj with | 0, hj => (simpa using hj) | 1, hj => (simpa using hj) | 2, hj => (simpa using hj) | 3, hj => (simpa using hj) | 4, hj => (simpa using hj) | 5, hj => (simpa using hj) | 6, hj => (simpa using hj) | 7, hj => (simpa using hj) | j + 8, hj => simp at hj) Try.underlying32 rfl (by kernel_rfl) rfl rfl rfl ?_) | (refine wpList_load_part (l := #[.int .i64 H, .int .i64 M, .int .i64 S]) (o := 16) T4.out (by intro j v hj; match j, hj with | 0, hj => (simpa using hj) | 1, hj => (simpa using hj) | 2, hj => (simpa using hj) | j + 3, hj => simp at hj) Try.underlying34 rfl (by kernel_rfl) rfl rfl rfl ?_))
  refine (rsecs_any b m cp f t H M S _).mono ?_
  rintro e w5 ⟨v5, er5, rfl, hs5, _, hb⟩
  have B5 := hid (B4.out.trans (hb.mono B4.out.size))
  have W5 := hid (W4.out.below hb W4.out.lt)
  have T5 := hid (T4.out.below hb T4.out.lt)
  clear hb
  obtain ⟨rfl, rfl⟩ := steps_same SS.out hs5
  clear hs5
  rw [HQQ] at HQ
  rw [show (if er = 0 then v * S else 0) = sc by by_cases he : er = 0; rw [if_pos he]; exact HQ.1 he; rw [if_neg he]; exact HQ.2 he]
  clear HQ HQQ SS
  go_wp2_with fail
  refine (awake_any _).mono ?_
  rintro e wz ⟨rfl, hb⟩
  go_wp2
  go_ret
  exact ⟨rfl, B5.out.trans (hb.mono B5.out.size)⟩
theorem changeSteps_walk (x0 : Int) (x1 : Int) (x2 : Int) (x3 : Int) (x4 : Int) (x5 : Int) (x6 : Int) (x7 : Int) (x8 : Int) (x9 : Int) (x10 : Int) (x11 : Int) (x12 : Int) (x13 : Int) (x14 : Int) (x15 : Int) (x16 : Int) (x17 : Int) (x18 : Int) (x19 : ByteArray) (x20 : Int) (x21 : Int) (x22 : Int) (x23 : Int) (x24 : Int) (a25 : Option Addr) (c25 : Nat) (x25 : List Int) (x26 : Int) (x27 : ByteArray) (x28 : Int) (x29 : Int) (x30 : Int) (x31 : Int) (x32 : Int) (a33 : Option Addr) (c33 : Nat) (x33 : List Int) (x34 : Int) (x35 : Int) (x36 : Int) (x37 : Int) (w : World) (_h0 : (Lit.int .i64 x0).wf = true) (_h1 : (Lit.int .i64 x1).wf = true) (_h2 : (Lit.int .i64 x2).wf = true) (_h3 : (Lit.int .i64 x3).wf = true) (_h4 : (Lit.int .i64 x4).wf = true) (_h5 : (Lit.int .i64 x5).wf = true) (_h6 : (Lit.int .i64 x6).wf = true) (_h7 : (Lit.int .i64 x7).wf = true) (_h8 : (Lit.int .i64 x8).wf = true) (_h9 : (Lit.int .i64 x9).wf = true) (_h10 : (Lit.int .i64 x10).wf = true) (_h11 : (Lit.int .i64 x11).wf = true) (_h12 : (Lit.int .i64 x12).wf = true) (_h13 : (Lit.int .i64 x13).wf = true) (_h14 : (Lit.int .i64 x14).wf = true) (_h15 : (Lit.int .i64 x15).wf = true) (_h16 : (Lit.int .i64 x16).wf = true) (_h17 : (Lit.int .i64 x17).wf = true) (_h18 : (Lit.int .i64 x18).wf = true) (h19 : x19.size ≤ maxLen) (_h20 : (Lit.int .i64 x20).wf = true) (_h21 : (Lit.int .i64 x21).wf = true) (_h22 : (Lit.int .i64 x22).wf = true) (_h23 : (Lit.int .i64 x23).wf = true) (_h24 : (Lit.int .i64 x24).wf = true) (_h25 : Rds Nn w 1 a25 x25.length (ints x25)) (g25 : x25.length ≤ c25 ∧ c25 ≤ maxLen ∧ (a25 = none → x25.length = 0 ∧ c25 = 0)) (_i25 : ∀ n ∈ x25, (Lit.int .i64 n).wf = true) (_h26 : (Lit.int .i64 x26).wf = true) (h27 : x27.size ≤ maxLen) (_h28 : (Lit.int .i64 x28).wf = true) (_h29 : (Lit.int .i64 x29).wf = true) (_h30 : (Lit.int .i64 x30).wf = true) (_h31 : (Lit.int .i64 x31).wf = true) (_h32 : (Lit.int .i64 x32).wf = true) (_h33 : Rds Nn w 1 a33 x33.length (ints x33)) (g33 : x33.length ≤ c33 ∧ c33 ≤ maxLen ∧ (a33 = none → x33.length = 0 ∧ c33 = 0)) (_i33 : ∀ n ∈ x33, (Lit.int .i64 n).wf = true) (_h34 : (Lit.int .i64 x34).wf = true) (_h35 : (Lit.int .i64 x35).wf = true) (_h36 : (Lit.int .i64 x36).wf = true) (_h37 : (Lit.int .i64 x37).wf = true) :
    Calls Try.prog 4 #[.agg #[.int .i64 x0, .int .i64 x1, .int .i64 x2, .int .i64 x3, .int .i64 x4, .int .i64 x5, .int .i64 x6, .int .i64 x7, .int .i64 x8, .int .i64 x9, .int .i64 x10, .int .i64 x11, .int .i64 x12, .int .i64 x13, .int .i64 x14, .int .i64 x15, .int .i64 x16, .int .i64 x17, .int .i64 x18], .agg #[.string x19, .int .i64 x20, .int .i64 x21, .int .i64 x22, .int .i64 x23, .int .i64 x24, .slice a25 x25.length c25, .int .i64 x26, .string x27, .int .i64 x28, .int .i64 x29, .int .i64 x30, .int .i64 x31, .int .i64 x32, .slice a33 x33.length c33, .int .i64 x34, .int .i64 x35, .int .i64 x36, .int .i64 x37]] w fun e w' => e = .returned (.bool true) ∧ Below w.heap.size w w' := by
  exact changeSteps_in ⟨x0, x1, x2, x3, x4, x5, x6, x7, x8⟩ ⟨x9, x10, x11, x12, x13, x14, x15, x16, x17⟩ x18 ⟨x19, x20, x21, x22, x23, x24, a25, _, c25, x26⟩ ⟨x27, x28, x29, x30, x31, x32, a33, _, c33, x34⟩ x35 x36 x37 w ⟨Nat.le_trans g25.1 g25.2.1, h19⟩ ⟨Nat.le_trans g33.1 g33.2.1, h27⟩
end Go.Proofs.Ytddphdkhaaolmaa
