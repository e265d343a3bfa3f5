/- WebBounds: for every input the law returns true. No condition. -/
import Derived.Test.YtfdblofpfpmbhaaLaw28
namespace Go.Proofs.Ytfdblofpfpmbhaa
open Go.RowKit

set_option linter.unusedSimpArgs false in
set_option maxRecDepth 100000 in
set_option maxHeartbeats 8000000 in
theorem webBounds_in (b m : CP) (cp : Int) (f t dB dM : Int) (w : World) : Calls Try.prog 5 #[.agg #[.int .i64 b.kp, .int .i64 b.ki, .int .i64 b.sh, .int .i64 b.lo, .int .i64 b.hi, .int .i64 b.rate, .int .i64 b.ga, .int .i64 b.la, .int .i64 b.de, .int .i64 m.kp, .int .i64 m.ki, .int .i64 m.sh, .int .i64 m.lo, .int .i64 m.hi, .int .i64 m.rate, .int .i64 m.ga, .int .i64 m.la, .int .i64 m.de, .int .i64 cp], .agg #[.int .i64 f, .int .i64 t], .agg #[.int .i64 dB, .int .i64 dM]] w fun e w' => e = .returned (.bool true) ∧ Below w.heap.size w w' := by
  obtain ⟨p1, p2, p3, p4, er, L1, L2⟩ : ∃ p1 p2 p3 p4 er : Int, (∀ W : World, Calls Try.prog 20 #[.agg #[.int .i64 b.kp, .int .i64 b.ki, .int .i64 b.sh, .int .i64 b.lo, .int .i64 b.hi, .int .i64 b.rate, .int .i64 b.ga, .int .i64 b.la, .int .i64 b.de, .int .i64 m.kp, .int .i64 m.ki, .int .i64 m.sh, .int .i64 m.lo, .int .i64 m.hi, .int .i64 m.rate, .int .i64 m.ga, .int .i64 m.la, .int .i64 m.de, .int .i64 cp], .agg #[.int .i64 f, .int .i64 t], .agg #[.int .i64 dB, .int .i64 dM]] W fun e w' => e = .returned (.tuple #[.agg #[.int .i64 p1, .int .i64 p2], .agg #[.int .i64 p3, .int .i64 p4], .int .i64 er]) ∧ Below W.heap.size W w') ∧ (∀ W : World, Calls Try.prog 21 #[.agg #[.int .i64 b.kp, .int .i64 b.ki, .int .i64 b.sh, .int .i64 b.lo, .int .i64 b.hi, .int .i64 b.rate, .int .i64 b.ga, .int .i64 b.la, .int .i64 b.de, .int .i64 m.kp, .int .i64 m.ki, .int .i64 m.sh, .int .i64 m.lo, .int .i64 m.hi, .int .i64 m.rate, .int .i64 m.ga, .int .i64 m.la, .int .i64 m.de, .int .i64 cp], .agg #[.int .i64 f, .int .i64 t], .agg #[.int .i64 dB, .int .i64 dM]] W fun e w' => e = .returned (.tuple #[.agg #[.int .i64 p1, .int .i64 p2], .agg #[.int .i64 p3, .int .i64 p4], .int .i64 er]) ∧ Below W.heap.size W w') := ⟨_, _, _, _, _, fun W => wlimits_any b m cp f t dB dM W, fun W => rwlimits_any b m cp f t dB dM W⟩
  have L1 := hid L1
  have L2 := hid L2
  go_enter Try.func5, Try.ntmps5
  go_upto_region 1 with fail
  have W0 := hid (Blk.alloc (Blk.alloc (Blk.at_new w (b := w.heap.size) (t := 29) (cs := #[.int .i64 b.kp, .int .i64 b.ki, .int .i64 b.sh, .int .i64 b.lo, .int .i64 b.hi, .int .i64 b.rate, .int .i64 b.ga, .int .i64 b.la, .int .i64 b.de, .int .i64 m.kp, .int .i64 m.ki, .int .i64 m.sh, .int .i64 m.lo, .int .i64 m.hi, .int .i64 m.rate, .int .i64 m.ga, .int .i64 m.la, .int .i64 m.de, .int .i64 cp]) rfl) (.cells #[.int .i64 f, .int .i64 t] 54)) (.cells #[.int .i64 dB, .int .i64 dM] 31))
  have X0 := hid (Blk.alloc (Blk.at_new (w.alloc (.cells #[.int .i64 b.kp, .int .i64 b.ki, .int .i64 b.sh, .int .i64 b.lo, .int .i64 b.hi, .int .i64 b.rate, .int .i64 b.ga, .int .i64 b.la, .int .i64 b.de, .int .i64 m.kp, .int .i64 m.ki, .int .i64 m.sh, .int .i64 m.lo, .int .i64 m.hi, .int .i64 m.rate, .int .i64 m.ga, .int .i64 m.la, .int .i64 m.de, .int .i64 cp] 29)) (b := w.heap.size + 1) (t := 54) (cs := #[.int .i64 f, .int .i64 t]) (by simp)) (.cells #[.int .i64 dB, .int .i64 dM] 31))
  have E0 := hid (Blk.at_new ((w.alloc (.cells #[.int .i64 b.kp, .int .i64 b.ki, .int .i64 b.sh, .int .i64 b.lo, .int .i64 b.hi, .int .i64 b.rate, .int .i64 b.ga, .int .i64 b.la, .int .i64 b.de, .int .i64 m.kp, .int .i64 m.ki, .int .i64 m.sh, .int .i64 m.lo, .int .i64 m.hi, .int .i64 m.rate, .int .i64 m.ga, .int .i64 m.la, .int .i64 m.de, .int .i64 cp] 29)).alloc (.cells #[.int .i64 f, .int .i64 t] 54)) (b := w.heap.size + 1 + 1) (t := 31) (cs := #[.int .i64 dB, .int .i64 dM]) (by simp))
  have B0 := hid (Below.alloc (Below.alloc (Below.alloc (Below.refl w.heap.size w) (Nat.le_refl _) (.cells #[.int .i64 b.kp, .int .i64 b.ki, .int .i64 b.sh, .int .i64 b.lo, .int .i64 b.hi, .int .i64 b.rate, .int .i64 b.ga, .int .i64 b.la, .int .i64 b.de, .int .i64 m.kp, .int .i64 m.ki, .int .i64 m.sh, .int .i64 m.lo, .int .i64 m.hi, .int .i64 m.rate, .int .i64 m.ga, .int .i64 m.la, .int .i64 m.de, .int .i64 cp] 29)) (by simp) (.cells #[.int .i64 f, .int .i64 t] 54)) (by simp; omega) (.cells #[.int .i64 dB, .int .i64 dM] 31))
  generalize (((w.alloc (.cells #[.int .i64 b.kp, .int .i64 b.ki, .int .i64 b.sh, .int .i64 b.lo, .int .i64 b.hi, .int .i64 b.rate, .int .i64 b.ga, .int .i64 b.la, .int .i64 b.de, .int .i64 m.kp, .int .i64 m.ki, .int .i64 m.sh, .int .i64 m.lo, .int .i64 m.hi, .int .i64 m.rate, .int .i64 m.ga, .int .i64 m.la, .int .i64 m.de, .int .i64 cp] 29)).alloc (.cells #[.int .i64 f, .int .i64 t] 54)).alloc (.cells #[.int .i64 dB, .int .i64 dM] 31)) = wa at W0 X0 E0 B0 ⊢
  go_wp2_with (first
    | (refine wpList_load_blk2 (t := 29) rfl rfl rfl Try.underlying29 rfl (by kernel_rfl) W0.out ?_)
    | (refine wpList_load_blk2 (t := 54) rfl rfl rfl Try.underlying54 rfl (by kernel_rfl) X0.out ?_)
    | (refine wpList_load_blk2 (t := 31) rfl rfl rfl Try.underlying31 rfl (by kernel_rfl) E0.out ?_))
  refine (L1.out _).mono ?_
  rintro e y1 ⟨rfl, hb⟩
  have W1 := hid (Blk.below W0.out hb W0.out.lt)
  have X1 := hid (Blk.below X0.out hb X0.out.lt)
  have E1 := hid (Blk.below E0.out hb E0.out.lt)
  have B1 := hid (B0.out.trans (hb.mono B0.out.size))
  have l1 := W1.out.lt
  have l2 := X1.out.lt
  have l3 := E1.out.lt
  clear hb
  go_upto_region 2 with fail
  have P2 := hid (Blk.alloc (Blk.at_new y1 (b := y1.heap.size) (t := 54) (cs := #[.int .i64 p1, .int .i64 p2]) rfl) (.cells #[.int .i64 p3, .int .i64 p4] 54))
  have Q2 := hid (Blk.at_new (y1.alloc (.cells #[.int .i64 p1, .int .i64 p2] 54)) (b := y1.heap.size + 1) (t := 54) (cs := #[.int .i64 p3, .int .i64 p4]) (by simp))
  have W2 := hid (Blk.alloc (Blk.alloc W1.out (.cells #[.int .i64 p1, .int .i64 p2] 54)) (.cells #[.int .i64 p3, .int .i64 p4] 54))
  have X2 := hid (Blk.alloc (Blk.alloc X1.out (.cells #[.int .i64 p1, .int .i64 p2] 54)) (.cells #[.int .i64 p3, .int .i64 p4] 54))
  have E2 := hid (Blk.alloc (Blk.alloc E1.out (.cells #[.int .i64 p1, .int .i64 p2] 54)) (.cells #[.int .i64 p3, .int .i64 p4] 54))
  have B2 := hid (Below.alloc (Below.alloc B1.out B1.out.size (.cells #[.int .i64 p1, .int .i64 p2] 54)) (Nat.le_trans B1.out.size (by simp)) (.cells #[.int .i64 p3, .int .i64 p4] 54))
  generalize ((y1.alloc (.cells #[.int .i64 p1, .int .i64 p2] 54)).alloc (.cells #[.int .i64 p3, .int .i64 p4] 54)) = y2 at P2 Q2 W2 X2 E2 B2 ⊢
  have lP2 := P2.out.lt
  have lQ2 := Q2.out.lt
  have lW2 := W2.out.lt
  have lX2 := X2.out.lt
  have lE2 := E2.out.lt
  go_wp2_with (first
    | (refine wpList_load_blk2 (t := 29) rfl rfl rfl Try.underlying29 rfl (by kernel_rfl) W2.out ?_)
    | (refine wpList_load_blk2 (t := 54) rfl rfl rfl Try.underlying54 rfl (by kernel_rfl) X2.out ?_)
    | (refine wpList_load_blk2 (t := 31) rfl rfl rfl Try.underlying31 rfl (by kernel_rfl) E2.out ?_))
  refine (L2.out _).mono ?_
  rintro e y3 ⟨rfl, hb⟩
  have P3 := hid (Blk.below P2.out hb P2.out.lt)
  have Q3 := hid (Blk.below Q2.out hb Q2.out.lt)
  have B3 := hid (B2.out.trans (hb.mono B2.out.size))
  have l5 := P3.out.lt
  have l6 := Q3.out.lt
  clear hb
  go_upto_region 3 with fail
  have U4 := hid (Blk.alloc (Blk.at_new y3 (b := y3.heap.size) (t := 54) (cs := #[.int .i64 p1, .int .i64 p2]) rfl) (.cells #[.int .i64 p3, .int .i64 p4] 54))
  have V4 := hid (Blk.at_new (y3.alloc (.cells #[.int .i64 p1, .int .i64 p2] 54)) (b := y3.heap.size + 1) (t := 54) (cs := #[.int .i64 p3, .int .i64 p4]) (by simp))
  have P4 := hid (Blk.alloc (Blk.alloc P3.out (.cells #[.int .i64 p1, .int .i64 p2] 54)) (.cells #[.int .i64 p3, .int .i64 p4] 54))
  have Q4 := hid (Blk.alloc (Blk.alloc Q3.out (.cells #[.int .i64 p1, .int .i64 p2] 54)) (.cells #[.int .i64 p3, .int .i64 p4] 54))
  have B4 := hid (Below.alloc (Below.alloc B3.out B3.out.size (.cells #[.int .i64 p1, .int .i64 p2] 54)) (Nat.le_trans B3.out.size (by simp)) (.cells #[.int .i64 p3, .int .i64 p4] 54))
  generalize ((y3.alloc (.cells #[.int .i64 p1, .int .i64 p2] 54)).alloc (.cells #[.int .i64 p3, .int .i64 p4] 54)) = y4 at U4 V4 P4 Q4 B4 ⊢
  have lU4 := U4.out.lt
  have lV4 := V4.out.lt
  have lP4 := P4.out.lt
  have lQ4 := Q4.out.lt
  have cP := P4.out.cell
  have cQ := Q4.out.cell
  have cU := U4.out.cell
  have cV := V4.out.cell
  go_wp2_with fail
  refine (awake_any _).mono ?_
  rintro e y5 ⟨rfl, hb⟩
  clear cP cQ cU cV
  go_wp2
  go_ret
  exact ⟨rfl, B4.out.trans (hb.mono B4.out.size)⟩
theorem webBounds_walk (x0 : Int) (x1 : Int) (x2 : Int) (x3 : Int) (x4 : Int) (x5 : Int) (x6 : Int) (x7 : Int) (x8 : Int) (x9 : Int) (x10 : Int) (x11 : Int) (x12 : Int) (x13 : Int) (x14 : Int) (x15 : Int) (x16 : Int) (x17 : Int) (x18 : Int) (x19 : Int) (x20 : Int) (x21 : Int) (x22 : Int) (w : World) (_h0 : (Lit.int .i64 x0).wf = true) (_h1 : (Lit.int .i64 x1).wf = true) (_h2 : (Lit.int .i64 x2).wf = true) (_h3 : (Lit.int .i64 x3).wf = true) (_h4 : (Lit.int .i64 x4).wf = true) (_h5 : (Lit.int .i64 x5).wf = true) (_h6 : (Lit.int .i64 x6).wf = true) (_h7 : (Lit.int .i64 x7).wf = true) (_h8 : (Lit.int .i64 x8).wf = true) (_h9 : (Lit.int .i64 x9).wf = true) (_h10 : (Lit.int .i64 x10).wf = true) (_h11 : (Lit.int .i64 x11).wf = true) (_h12 : (Lit.int .i64 x12).wf = true) (_h13 : (Lit.int .i64 x13).wf = true) (_h14 : (Lit.int .i64 x14).wf = true) (_h15 : (Lit.int .i64 x15).wf = true) (_h16 : (Lit.int .i64 x16).wf = true) (_h17 : (Lit.int .i64 x17).wf = true) (_h18 : (Lit.int .i64 x18).wf = true) (_h19 : (Lit.int .i64 x19).wf = true) (_h20 : (Lit.int .i64 x20).wf = true) (_h21 : (Lit.int .i64 x21).wf = true) (_h22 : (Lit.int .i64 x22).wf = true) :
    Calls Try.prog 5 #[.agg #[.int .i64 x0, .int .i64 x1, .int .i64 x2, .int .i64 x3, .int .i64 x4, .int .i64 x5, .int .i64 x6, .int .i64 x7, .int .i64 x8, .int .i64 x9, .int .i64 x10, .int .i64 x11, .int .i64 x12, .int .i64 x13, .int .i64 x14, .int .i64 x15, .int .i64 x16, .int .i64 x17, .int .i64 x18], .agg #[.int .i64 x19, .int .i64 x20], .agg #[.int .i64 x21, .int .i64 x22]] w fun e w' => e = .returned (.bool true) ∧ Below w.heap.size w w' := webBounds_in ⟨x0, x1, x2, x3, x4, x5, x6, x7, x8⟩ ⟨x9, x10, x11, x12, x13, x14, x15, x16, x17⟩ x18 x19 x20 x21 x22 w
end Go.Proofs.Ytfdblofpfpmbhaa
