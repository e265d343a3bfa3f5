/- The nearest target: what both searches answer. -/
import Derived.Test.YtddphdkhaaolmaaKRest
namespace Go.Proofs.Ytddphdkhaaolmaa
open Go.RowKit

def farI (ga v m : Int) : Int := max (tgt ga m - v) (v - tgt ga m)
/-- r is the least one of those whose target is nearest to v. -/
def IsRest (ga lo hi v r : Int) : Prop := lo ≤ r ∧ r ≤ hi ∧ ∀ m, lo ≤ m → m ≤ hi → farI ga v r < farI ga v m ∨ farI ga v r = farI ga v m ∧ r ≤ m
theorem rest_one {ga lo hi v r s : Int} (h : IsRest ga lo hi v r) (k : IsRest ga lo hi v s) : r = s := by
  have a := h.2.2 s k.1 k.2.1
  have b := k.2.2 r h.1 h.2.1
  omega
/-- the target at or above v: all lesser ones are farther -/
theorem rest_high {ga lo hi v r : Int} (h1 : 1 ≤ ga) (a : lo ≤ r) (b : r ≤ hi) (c : v ≤ tgt ga r) (d : ∀ m, lo ≤ m → m < r → tgt ga r - v < v - tgt ga m) : IsRest ga lo hi v r := by
  refine ⟨a, b, fun m p q => ?_⟩
  rcases Int.lt_or_le m r with h | h
  · have := d m p h
    unfold farI
    omega
  · have := tgt_mono (ga := ga) h1 h
    unfold farI
    omega
/-- the target below v: the least one with that target; all greater targets are farther, or as far -/
theorem rest_low {ga lo hi v r : Int} (a : lo ≤ r) (b : r ≤ hi) (c : tgt ga r ≤ v) (d : ∀ m, lo ≤ m → m < r → tgt ga m < tgt ga r) (e : ∀ m, r ≤ m → m ≤ hi → tgt ga m = tgt ga r ∨ v - tgt ga r ≤ tgt ga m - v) : IsRest ga lo hi v r := by
  refine ⟨a, b, fun m p q => ?_⟩
  rcases Int.lt_or_le m r with h | h
  · have := d m p h
    unfold farI
    omega
  · have := e m h q
    unfold farI
    omega
theorem least_at {ga lo hi k r : Int} (h1 : 1 ≤ ga) (a : lo ≤ k) (b : k ≤ hi) (h : IsLeast ga lo hi (tgt ga k) r) : r ≤ k ∧ tgt ga r = tgt ga k := by
  obtain ⟨p, q, s, u⟩ := h
  have hr : r ≤ k := by
    rcases Int.lt_or_le k r with h | h
    · exact absurd (s k a h) (by omega)
    · exact h
  refine ⟨hr, ?_⟩
  have m := tgt_mono (ga := ga) h1 hr
  rcases Int.lt_or_le r hi with h | h
  · have := u h; omega
  · rw [show r = k by omega]
theorem first_least {ga lo hi t n : Int} (h : IsFirst ga lo hi t n) (hn : n ≤ hi) : IsLeast ga lo hi t n := ⟨h.1, hn, h.2.2.1, fun a => h.2.2.2 (by omega)⟩

/-- Rest, the program's: the cases -/
theorem rest_p1 {ga lo hi v n : Int} (h1 : 1 ≤ ga) (h : IsLeast ga lo hi v n) (c : n = lo ∨ tgt ga n = v) : IsRest ga lo hi v n := by
  obtain ⟨p, q, s, u⟩ := h
  by_cases hv : v ≤ tgt ga n
  · refine rest_high h1 p q hv (fun m a b => ?_)
    have := s m a b
    rcases c with c | c <;> omega
  · have hn : n = hi := by
      rcases Int.lt_or_le n hi with h | h
      · exact absurd (u h) hv
      · omega
    rcases c with c | c
    · refine rest_low p q (by omega) (fun m a b => by omega) (fun m a b => .inl ?_)
      rw [show m = n by omega]
    · omega
theorem rest_p2 {ga lo hi v n r : Int} (h1 : 1 ≤ ga) (h : IsLeast ga lo hi v n) (c : tgt ga n < v ∨ tgt ga n - v < v - tgt ga (n - 1)) (hr : IsLeast ga lo hi (tgt ga n) r) : IsRest ga lo hi v r := by
  obtain ⟨p, q, s, u⟩ := h
  obtain ⟨k1, k2⟩ := least_at h1 p q hr
  by_cases hv : v ≤ tgt ga n
  · refine rest_high h1 hr.1 hr.2.1 (by omega) (fun m a b => ?_)
    have := tgt_mono (ga := ga) h1 (show m ≤ n - 1 by omega)
    omega
  · have hn : n = hi := by
      rcases Int.lt_or_le n hi with h | h
      · exact absurd (u h) hv
      · omega
    refine rest_low hr.1 hr.2.1 (by omega) (fun m a b => by have := hr.2.2.1 m a b; omega) (fun m a b => .inl ?_)
    have e1 := tgt_mono (ga := ga) h1 a
    have e2 := tgt_mono (ga := ga) h1 (show m ≤ n by omega)
    omega
theorem rest_low2 {ga lo hi v n r : Int} (h1 : 1 ≤ ga) (hlo : lo < n) (hn : n ≤ hi + 1) (hs : ∀ m, lo ≤ m → m < n → tgt ga m < v) (c : n ≤ hi → v - tgt ga (n - 1) ≤ tgt ga n - v) (hr : IsLeast ga lo hi (tgt ga (n - 1)) r) : IsRest ga lo hi v r := by
  obtain ⟨k1, k2⟩ := least_at h1 (show lo ≤ n - 1 by omega) (by omega) hr
  have hv := hs (n - 1) (by omega) (by omega)
  refine rest_low hr.1 hr.2.1 (by omega) (fun m a b => by have := hr.2.2.1 m a b; omega) (fun m a b => ?_)
  rcases Int.lt_or_le m n with h | h
  · have e1 := tgt_mono (ga := ga) h1 a
    have e2 := tgt_mono (ga := ga) h1 (show m ≤ n - 1 by omega)
    exact .inl (by omega)
  · have e3 := tgt_mono (ga := ga) h1 h
    have := c (by omega)
    exact .inr (by omega)
theorem rest_p3 {ga lo hi v n r : Int} (h1 : 1 ≤ ga) (h : IsLeast ga lo hi v n) (hlo : n ≠ lo) (c : ¬ tgt ga n < v ∧ ¬ tgt ga n - v < v - tgt ga (n - 1)) (hr : IsLeast ga lo hi (tgt ga (n - 1)) r) : IsRest ga lo hi v r :=
  rest_low2 h1 (by have := h.1; omega) (by have := h.2.1; omega) h.2.2.1 (fun _ => by omega) hr
/-- Rest, the reference's -/
theorem rest_r1 {ga lo hi v : Int} (h1 : 1 ≤ ga) (h : IsFirst ga lo hi v lo) (hl : lo ≤ hi) : IsRest ga lo hi v lo := rest_p1 h1 (first_least h hl) (.inl rfl)
theorem first_in {ga lo hi k m : Int} (a : lo ≤ k) (b : k ≤ hi) (h : IsFirst ga lo hi (tgt ga k) m) : IsLeast ga lo hi (tgt ga k) m := by
  refine first_least h ?_
  rcases Int.lt_or_le k m with q | q
  · exact absurd (h.2.2.1 k a q) (by omega)
  · omega
theorem rest_r2 {ga lo hi v n m : Int} (h1 : 1 ≤ ga) (h : IsFirst ga lo hi v n) (hlo : n ≠ lo) (hm : IsFirst ga lo hi (tgt ga (n - 1)) m) (c : hi < n ∨ v - tgt ga m ≤ tgt ga n - v) : IsRest ga lo hi v m := by
  have a := h.1
  have b := h.2.1
  have hl := first_in (show lo ≤ n - 1 by omega) (by omega) hm
  have e := (least_at h1 (show lo ≤ n - 1 by omega) (by omega) hl).2
  exact rest_low2 h1 (by omega) b h.2.2.1 (fun q => by omega) hl
theorem rest_r3 {ga lo hi v n m : Int} (h1 : 1 ≤ ga) (h : IsFirst ga lo hi v n) (hlo : n ≠ lo) (hm : IsFirst ga lo hi (tgt ga (n - 1)) m) (c : n ≤ hi ∧ ¬ v - tgt ga m ≤ tgt ga n - v) : IsRest ga lo hi v n := by
  have a := h.1
  have hl := first_in (show lo ≤ n - 1 by omega) (by omega) hm
  have e := (least_at h1 (show lo ≤ n - 1 by omega) (by omega) hl).2
  refine rest_high h1 h.1 c.1 (h.2.2.2 c.1) (fun k p q => ?_)
  have := tgt_mono (ga := ga) h1 (show k ≤ n - 1 by omega)
  omega
end Go.Proofs.Ytddphdkhaaolmaa
