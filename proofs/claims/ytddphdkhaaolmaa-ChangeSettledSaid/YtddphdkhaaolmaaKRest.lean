/- Processes: the searches. -/
import Derived.Test.YtddphdkhaaolmaaKPlain
namespace Go.Proofs.Ytddphdkhaaolmaa
open Go.RowKit

/-- The least output from lo to hi whose target is at least t; hi if there is none. -/
def IsLeast (ga lo hi t n : Int) : Prop := lo ≤ n ∧ n ≤ hi ∧ (∀ m, lo ≤ m → m < n → tgt ga m < t) ∧ (n < hi → t ≤ tgt ga n)
/-- The least output from lo to hi whose target is at least t; hi + 1 if there is none. -/
def IsFirst (ga lo hi t n : Int) : Prop := lo ≤ n ∧ n ≤ hi + 1 ∧ (∀ m, lo ≤ m → m < n → tgt ga m < t) ∧ (n ≤ hi → t ≤ tgt ga n)

set_option maxRecDepth 100000 in
set_option maxHeartbeats 1000000 in
theorem least_any (ga la de lo hi t : Int) (w : World) (b1 : 1 ≤ ga) (b2 : ga ≤ 4096) (h1 : -16777216 ≤ lo) (h2 : lo ≤ hi) (h3 : hi ≤ 16777216) :
    Calls Try.prog 91 #[.agg #[.int .i64 ga, .int .i64 la, .int .i64 de], .int .i64 lo, .int .i64 hi, .int .i64 t] w fun e w' => ∃ n, e = .returned (.int .i64 n) ∧ IsLeast ga lo hi t n ∧ Below w.heap.size w w' := by
  have SG : Hid (Blk (w.alloc (.cells #[.int .i64 ga, .int .i64 la, .int .i64 de] 25)) w.heap.size 25 #[.int .i64 ga, .int .i64 la, .int .i64 de]) := hid (Blk.at_new _ rfl)
  have SB := hid (Below.alloc (Below.refl w.heap.size w) (Nat.le_refl _) (.cells #[.int .i64 ga, .int .i64 la, .int .i64 de] 25))
  go_enter Try.func91, Try.ntmps91
  go_wp2
  go_loopw [2, 1] (fun vh vl wr => ∃ l h : Int, vl = .int .i64 l ∧ vh = .int .i64 h ∧ lo ≤ l ∧ l ≤ h ∧ h ≤ hi ∧ (∀ m, lo ≤ m → m < l → tgt ga m < t) ∧ (h < hi → t ≤ tgt ga (h)) ∧ Blk wr w.heap.size 25 #[.int .i64 ga, .int .i64 la, .int .i64 de] ∧ Below w.heap.size w wr) (fun vh vl _ => (intOf vh - intOf vl).toNat)
  case atStart => exact ⟨lo, hi, rfl, rfl, Int.le_refl _, by omega, Int.le_refl _, fun m p q => absurd q (by omega), fun p => absurd p (by omega), SG.out, SB.out⟩
  case round =>
    obtain ⟨l, h, rfl, rfl, p1, p2, p3, p4, p5, hg, hbel⟩ := hrel
    have HG := hid hg
    have HBr := hid hbel
    have P4 := hid p4
    have P5 := hid p5
    have cg := hg.cell
    clear hg hbel p4 p5
    by_cases hlt : l < h
    · have hm1 : l ≤ (l + h) / 2 := by omega
      have hm2 : (l + h) / 2 < h := by omega
      by_cases hq : t ≤ tgt ga ((l + h) / 2)
      · have Q := hid hq
        go_wp2_with fail
        refine (floor_any _ _ _ (by omega) (by omega) (by omega) (by omega)).mono ?_
        rintro e w2 ⟨rfl, rfl⟩
        generalize hmid : (l + h) / 2 = mid at *
        go_wp2_with fail
        refine (target_any _ _ _ _ _ b1 b2 (by omega) (by omega)).mono ?_
        rintro e w3 ⟨rfl, hb⟩
        have G3 := hid (Blk.below HG.out hb HG.out.lt)
        have B3 := hid (HBr.out.trans (hb.mono HBr.out.size))
        clear hb cg
        go_wp2
        go_roundw
        case rel => exact ⟨l, mid, rfl, rfl, p1, by omega, by omega, P4.out, fun _ => by simpa using Q.out, G3.out, B3.out⟩
        case measure => simp [intOf]; omega
      · have Q := hid hq
        go_wp2_with fail
        refine (floor_any _ _ _ (by omega) (by omega) (by omega) (by omega)).mono ?_
        rintro e w2 ⟨rfl, rfl⟩
        generalize hmid : (l + h) / 2 = mid at *
        go_wp2_with fail
        refine (target_any _ _ _ _ _ b1 b2 (by omega) (by omega)).mono ?_
        rintro e w3 ⟨rfl, hb⟩
        have G3 := hid (Blk.below HG.out hb HG.out.lt)
        have B3 := hid (HBr.out.trans (hb.mono HBr.out.size))
        clear hb cg
        go_wp2
        go_roundw
        case rel =>
          refine ⟨mid + 1, h, rfl, rfl, by omega, by omega, p3, fun m a b => ?_, P5.out, G3.out, B3.out⟩
          have := tgt_mono (ga := ga) b1 (show m ≤ mid by omega)
          have := Q.out
          omega
        case measure => simp [intOf]; omega
    · go_wp2
      go_ret
      have e : h = l := by omega
      refine ⟨l, rfl, ⟨p1, by omega, P4.out, fun a => ?_⟩, HBr.out⟩
      have := P5.out (by omega)
      rw [e] at this
      exact this

set_option maxRecDepth 100000 in
set_option maxHeartbeats 1000000 in
theorem rfirst_any (ga la de lo hi t : Int) (w : World) (b1 : 1 ≤ ga) (b2 : ga ≤ 4096) (h1 : -16777216 ≤ lo) (h2 : lo ≤ hi) (h3 : hi ≤ 16777216) :
    Calls Try.prog 77 #[.agg #[.int .i64 ga, .int .i64 la, .int .i64 de], .int .i64 lo, .int .i64 hi, .int .i64 t] w fun e w' => ∃ n, e = .returned (.int .i64 n) ∧ IsFirst ga lo hi t n ∧ Below w.heap.size w w' := by
  have SG : Hid (Blk (w.alloc (.cells #[.int .i64 ga, .int .i64 la, .int .i64 de] 25)) w.heap.size 25 #[.int .i64 ga, .int .i64 la, .int .i64 de]) := hid (Blk.at_new _ rfl)
  have SB := hid (Below.alloc (Below.refl w.heap.size w) (Nat.le_refl _) (.cells #[.int .i64 ga, .int .i64 la, .int .i64 de] 25))
  go_enter Try.func77, Try.ntmps77
  go_wp2
  go_loopw [2, 1] (fun vh vl wr => ∃ l h : Int, vl = .int .i64 l ∧ vh = .int .i64 h ∧ lo ≤ l ∧ l ≤ h + 1 ∧ h ≤ hi ∧ (∀ m, lo ≤ m → m < l → tgt ga m < t) ∧ (h < hi → t ≤ tgt ga (h + 1)) ∧ Blk wr w.heap.size 25 #[.int .i64 ga, .int .i64 la, .int .i64 de] ∧ Below w.heap.size w wr) (fun vh vl _ => (intOf vh - intOf vl + 1).toNat)
  case atStart => exact ⟨lo, hi, rfl, rfl, Int.le_refl _, by omega, Int.le_refl _, fun m p q => absurd q (by omega), fun p => absurd p (by omega), SG.out, SB.out⟩
  case round =>
    obtain ⟨l, h, rfl, rfl, p1, p2, p3, p4, p5, hg, hbel⟩ := hrel
    have HG := hid hg
    have HBr := hid hbel
    have P4 := hid p4
    have P5 := hid p5
    have cg := hg.cell
    clear hg hbel p4 p5
    by_cases hlt : l ≤ h
    · have hm1 : l ≤ (l + h) / 2 := by omega
      have hm2 : (l + h) / 2 ≤ h := by omega
      by_cases hq : t ≤ tgt ga ((l + h) / 2)
      · have Q := hid hq
        go_wp2_with fail
        refine (rdown_any _ _ _ (by omega) (by omega) (by omega) (by omega)).mono ?_
        rintro e w2 ⟨rfl, rfl⟩
        generalize hmid : (l + h) / 2 = mid at *
        go_wp2_with fail
        refine (rtarget_any _ _ _ _ _ b1 b2 (by omega) (by omega)).mono ?_
        rintro e w3 ⟨rfl, hb⟩
        have G3 := hid (Blk.below HG.out hb HG.out.lt)
        have B3 := hid (HBr.out.trans (hb.mono HBr.out.size))
        clear hb cg
        go_wp2
        go_roundw
        case rel => exact ⟨l, mid - 1, rfl, rfl, p1, by omega, by omega, P4.out, fun _ => by simpa using Q.out, G3.out, B3.out⟩
        case measure => simp [intOf]; omega
      · have Q := hid hq
        go_wp2_with fail
        refine (rdown_any _ _ _ (by omega) (by omega) (by omega) (by omega)).mono ?_
        rintro e w2 ⟨rfl, rfl⟩
        generalize hmid : (l + h) / 2 = mid at *
        go_wp2_with fail
        refine (rtarget_any _ _ _ _ _ b1 b2 (by omega) (by omega)).mono ?_
        rintro e w3 ⟨rfl, hb⟩
        have G3 := hid (Blk.below HG.out hb HG.out.lt)
        have B3 := hid (HBr.out.trans (hb.mono HBr.out.size))
        clear hb cg
        go_wp2
        go_roundw
        case rel =>
          refine ⟨mid + 1, h, rfl, rfl, by omega, by omega, p3, fun m a b => ?_, P5.out, G3.out, B3.out⟩
          have := tgt_mono (ga := ga) b1 (show m ≤ mid by omega)
          have := Q.out
          omega
        case measure => simp [intOf]; omega
    · go_wp2
      go_ret
      have e : h + 1 = l := by omega
      refine ⟨l, rfl, ⟨p1, by omega, P4.out, fun a => ?_⟩, HBr.out⟩
      have := P5.out (by omega)
      rw [e] at this
      exact this
end Go.Proofs.Ytddphdkhaaolmaa
