/- Chapter 32: in, target, fits, Check and Meets of both. -/
import Derived.Test.YtddphdkhaaolmaaGKit
namespace Go.Proofs.Ytddphdkhaaolmaa
open Go.RowKit

/-- A grade. -/
structure GR where
  nm : ByteArray
  bs : Int
  bt : Int
  mo : Int
  mt : Int
  ca : Int
  ra : Option Addr
  rn : Nat
  rc : Nat
  pr : Int
set_option linter.unusedSimpArgs false in
set_option maxRecDepth 100000 in
set_option maxHeartbeats 4000000 in
theorem cin_any (n lo hi : Int) (w : World) : Calls Try.prog 29 #[.int .i64 n, .int .i64 lo, .int .i64 hi] w fun e w' => e = .returned (.bool (decide (lo ≤ n ∧ n ≤ hi))) ∧ Below w.heap.size w w' := by
  by_cases h1 : lo ≤ n
  · by_cases h2 : n ≤ hi
    · have e : decide (lo ≤ n ∧ n ≤ hi) = true := by simp [h1, h2]
      rw [e]
      go_enter Try.func29, Try.ntmps29
      go_wp2
      go_ret
      exact ⟨rfl, Below.refl _ _⟩
    · have e : decide (lo ≤ n ∧ n ≤ hi) = false := by simp [h2]
      rw [e]
      go_enter Try.func29, Try.ntmps29
      go_wp2
      go_ret
      exact ⟨rfl, Below.refl _ _⟩
  · have e : decide (lo ≤ n ∧ n ≤ hi) = false := by simp [h1]
    rw [e]
    go_enter Try.func29, Try.ntmps29
    go_wp2
    go_ret
    exact ⟨rfl, Below.refl _ _⟩
set_option linter.unusedSimpArgs false in
set_option maxRecDepth 100000 in
set_option maxHeartbeats 4000000 in
theorem ctarget_any (g : GR) (w : World) : Calls Try.prog 30 #[.agg #[.string g.nm, .int .i64 g.bs, .int .i64 g.bt, .int .i64 g.mo, .int .i64 g.mt, .int .i64 g.ca, .slice g.ra g.rn g.rc, .int .i64 g.pr]] w fun e w' => e = .returned (.agg #[.int .i64 g.bs, .int .i64 g.mo]) ∧ Below w.heap.size w w' := by
  have D0 := hid (Blk.alloc (Blk.at_new w (b := w.heap.size) (t := 32) (cs := #[.string g.nm, .int .i64 g.bs, .int .i64 g.bt, .int .i64 g.mo, .int .i64 g.mt, .int .i64 g.ca, .slice g.ra g.rn g.rc, .int .i64 g.pr]) rfl) (.cells #[.int .i64 0, .int .i64 0] 60))
  have Z0 := hid (Blk.at_new (w.alloc (.cells #[.string g.nm, .int .i64 g.bs, .int .i64 g.bt, .int .i64 g.mo, .int .i64 g.mt, .int .i64 g.ca, .slice g.ra g.rn g.rc, .int .i64 g.pr] 32)) (b := w.heap.size + 1) (t := 60) (cs := #[.int .i64 0, .int .i64 0]) (by simp))
  have B0 := hid (((Below.refl w.heap.size w).alloc (Nat.le_refl _) (.cells #[.string g.nm, .int .i64 g.bs, .int .i64 g.bt, .int .i64 g.mo, .int .i64 g.mt, .int .i64 g.ca, .slice g.ra g.rn g.rc, .int .i64 g.pr] 32)).alloc (by simp) (.cells #[.int .i64 0, .int .i64 0] 60))
  have c0 := D0.out.cell
  go_enter Try.func30, Try.ntmps30
  go_wp2_with (refine wpList_store_blk2 (b := w.heap.size + 1) (t := 60) (e := 60) (cs0 := #[.int .i64 0, .int .i64 0]) (cs := #[.int .i64 g.bs, .int .i64 g.mo]) rfl rfl rfl rfl (by kernel_rfl) rfl (by simp [Value.oneCell']) Z0.out ?_)
  refine bodyPost_ret (v := .agg #[.int .i64 g.bs, .int .i64 g.mo]) (results_cell rfl rfl (Blk.row Z0.out _) Try.underlying60 rfl (by kernel_rfl)) rfl ?_
  exact ⟨rfl, Below.row B0.out (Nat.le_succ _) _⟩
/-- Is a grade permitted in a change? -/
def fitB (g : GR) : Bool := decide (1 ≤ g.bs ∧ g.bs ≤ 1000000 ∧ 0 ≤ g.mo ∧ g.mo ≤ 2000)
theorem fit_no {g : GR} (h : fitB g = false) : g.bs < 1 ∨ (1 ≤ g.bs ∧ 1000000 < g.bs) ∨ ((1 ≤ g.bs ∧ g.bs ≤ 1000000) ∧ g.mo < 0) ∨ ((1 ≤ g.bs ∧ g.bs ≤ 1000000) ∧ 0 ≤ g.mo ∧ 2000 < g.mo) := by
  simp only [fitB, decide_eq_false_iff_not] at h
  omega
theorem fit_yes {g : GR} (h : fitB g = true) : (1 ≤ g.bs ∧ g.bs ≤ 1000000) ∧ 0 ≤ g.mo ∧ g.mo ≤ 2000 := by
  simp only [fitB, decide_eq_true_eq] at h
  omega
set_option linter.unusedSimpArgs false in
set_option maxRecDepth 100000 in
set_option maxHeartbeats 4000000 in
theorem fits_any (g : GR) (w : World) : Calls Try.prog 34 #[.agg #[.string g.nm, .int .i64 g.bs, .int .i64 g.bt, .int .i64 g.mo, .int .i64 g.mt, .int .i64 g.ca, .slice g.ra g.rn g.rc, .int .i64 g.pr]] w fun e w' => e = .returned (.bool (fitB g)) ∧ Below w.heap.size w w' := by
  have C := (Blk.at_new w (b := w.heap.size) (t := 32) (cs := #[.string g.nm, .int .i64 g.bs, .int .i64 g.bt, .int .i64 g.mo, .int .i64 g.mt, .int .i64 g.ca, .slice g.ra g.rn g.rc, .int .i64 g.pr]) rfl).cell
  have B := hid ((Below.refl w.heap.size w).alloc (Nat.le_refl _) (.cells #[.string g.nm, .int .i64 g.bs, .int .i64 g.bt, .int .i64 g.mo, .int .i64 g.mt, .int .i64 g.ca, .slice g.ra g.rn g.rc, .int .i64 g.pr] 32))
  obtain ⟨R, hR⟩ : ∃ R, fitB g = R := ⟨_, rfl⟩
  rw [hR]
  cases R with
  | false =>
    rcases fit_no hR with h | ⟨h, h1⟩ | ⟨⟨h, h1⟩, h2⟩ | ⟨⟨h, h1⟩, h2, h3⟩
    all_goals
      clear hR
      go_enter Try.func34, Try.ntmps34
      go_wp2
      go_ret
      first | exact ⟨rfl, B.out⟩ | exact ⟨ret_b (by simp <;> omega), B.out⟩
  | true =>
    obtain ⟨⟨h, h1⟩, h2, h3⟩ := fit_yes hR
    clear hR
    go_enter Try.func34, Try.ntmps34
    go_wp2
    go_ret
    first | exact ⟨rfl, B.out⟩ | exact ⟨ret_b (by simp <;> omega), B.out⟩
/-- Check of a rule. -/
def ruErr (h m s : Int) : Int := if 1 ≤ h ∧ h ≤ 512 ∧ 1 ≤ m ∧ m ≤ 512 ∧ 1 ≤ s ∧ s ≤ 86400 then 0 else 1
set_option linter.unusedSimpArgs false in
set_option maxRecDepth 100000 in
set_option maxHeartbeats 4000000 in
theorem gcheck_any (h m s : Int) (w : World) : Calls Try.prog 14 #[.agg #[.int .i64 h, .int .i64 m, .int .i64 s]] w fun e w' => e = .returned (.int .i64 (ruErr h m s)) ∧ Below w.heap.size w w' := by
  have D0 := hid (Blk.at_new w (b := w.heap.size) (t := 34) (cs := #[.int .i64 h, .int .i64 m, .int .i64 s]) rfl)
  have B0 := hid ((Below.refl w.heap.size w).alloc (Nat.le_refl _) (.cells #[.int .i64 h, .int .i64 m, .int .i64 s] 34))
  have c0 := D0.out.cell
  obtain ⟨R, hR⟩ : ∃ R, ruErr h m s = R := ⟨_, rfl⟩
  rw [hR]
  have HR := hid hR
  clear hR
  go_enter Try.func14, Try.ntmps14
  go_wp2_with fail
  refine (cin_any h 1 512 _).mono ?_
  rintro e w1 ⟨rfl, hb⟩
  have B1 := hid (B0.out.trans (hb.mono B0.out.size))
  have D1 := hid (D0.out.below hb D0.out.lt)
  clear hb c0
  have c1 := D1.out.cell
  by_cases h1 : 1 ≤ h ∧ h ≤ 512
  rotate_left
  · rw [show decide (1 ≤ h ∧ h ≤ 512) = false from decide_eq_false h1]
    obtain rfl : 1 = R := by rw [← HR.out]; unfold ruErr; rw [if_neg (by omega)]
    clear h1
    go_wp2
    go_ret
    exact ⟨rfl, B1.out⟩
  rw [show decide (1 ≤ h ∧ h ≤ 512) = true from decide_eq_true h1]
  go_wp2_with fail
  refine (cin_any m 1 512 _).mono ?_
  rintro e w2 ⟨rfl, hb⟩
  have B2 := hid (B1.out.trans (hb.mono B1.out.size))
  have D2 := hid (D1.out.below hb D1.out.lt)
  clear hb c1
  have c2 := D2.out.cell
  by_cases h2 : 1 ≤ m ∧ m ≤ 512
  rotate_left
  · rw [show decide (1 ≤ m ∧ m ≤ 512) = false from decide_eq_false h2]
    obtain rfl : 1 = R := by rw [← HR.out]; unfold ruErr; rw [if_neg (by omega)]
    clear h2
    go_wp2
    go_ret
    exact ⟨rfl, B2.out⟩
  rw [show decide (1 ≤ m ∧ m ≤ 512) = true from decide_eq_true h2]
  go_wp2_with fail
  refine (cin_any s 1 86400 _).mono ?_
  rintro e w3 ⟨rfl, hb⟩
  have B3 := hid (B2.out.trans (hb.mono B2.out.size))
  have D3 := hid (D2.out.below hb D2.out.lt)
  clear hb c2
  have c3 := D3.out.cell
  by_cases h3 : 1 ≤ s ∧ s ≤ 86400
  rotate_left
  · rw [show decide (1 ≤ s ∧ s ≤ 86400) = false from decide_eq_false h3]
    obtain rfl : 1 = R := by rw [← HR.out]; unfold ruErr; rw [if_neg (by omega)]
    clear h3
    go_wp2
    go_ret
    exact ⟨rfl, B3.out⟩
  rw [show decide (1 ≤ s ∧ s ≤ 86400) = true from decide_eq_true h3]
  obtain rfl : 0 = R := by rw [← HR.out]; unfold ruErr; rw [if_pos (by omega)]
  go_wp2
  go_ret
  exact ⟨rfl, B3.out⟩
set_option linter.unusedSimpArgs false in
set_option maxRecDepth 100000 in
set_option maxHeartbeats 4000000 in
theorem rgcheck_any (h m s : Int) (w : World) : Calls Try.prog 15 #[.agg #[.int .i64 h, .int .i64 m, .int .i64 s]] w fun e w' => e = .returned (.int .i64 (ruErr h m s)) ∧ Below w.heap.size w w' := by
  have D0 := hid (Blk.at_new w (b := w.heap.size) (t := 45) (cs := #[.int .i64 h, .int .i64 m, .int .i64 s]) rfl)
  have B0 := hid ((Below.refl w.heap.size w).alloc (Nat.le_refl _) (.cells #[.int .i64 h, .int .i64 m, .int .i64 s] 45))
  have c0 := D0.out.cell
  by_cases hk : 1 ≤ h ∧ h ≤ 512 ∧ 1 ≤ m ∧ m ≤ 512 ∧ 1 ≤ s ∧ s ≤ 86400
  · rw [show ruErr h m s = 0 by unfold ruErr; rw [if_pos hk]]
    obtain ⟨k1, k2, k3, k4, k5, k6⟩ := hk
    go_enter Try.func15, Try.ntmps15
    go_wp2
    go_ret
    exact ⟨rfl, B0.out⟩
  · rw [show ruErr h m s = 1 by unfold ruErr; rw [if_neg hk]]
    have hq : h < 1 ∨ (1 ≤ h ∧ 512 < h) ∨ ((1 ≤ h ∧ h ≤ 512) ∧ m < 1) ∨ ((1 ≤ h ∧ h ≤ 512) ∧ 1 ≤ m ∧ 512 < m) ∨ ((1 ≤ h ∧ h ≤ 512) ∧ (1 ≤ m ∧ m ≤ 512) ∧ s < 1) ∨ ((1 ≤ h ∧ h ≤ 512) ∧ (1 ≤ m ∧ m ≤ 512) ∧ 1 ≤ s ∧ 86400 < s) := by omega
    clear hk
    rcases hq with k | ⟨k, k1⟩ | ⟨⟨k, k1⟩, k2⟩ | ⟨⟨k, k1⟩, k2, k3⟩ | ⟨⟨k, k1⟩, ⟨k2, k3⟩, k4⟩ | ⟨⟨k, k1⟩, ⟨k2, k3⟩, k4, k5⟩
    all_goals
      go_enter Try.func15, Try.ntmps15
      go_wp2
      go_ret
      exact ⟨rfl, B0.out⟩
/-- How far two numbers are apart, as the program reckons it. -/
def apW (a b : Int) : Int := if a < b then IntKind.u64.wrap (IntKind.u64.wrap b - IntKind.u64.wrap a) else IntKind.u64.wrap (IntKind.u64.wrap a - IntKind.u64.wrap b)
def meetB (g : GR) (x y : Int) : Bool := decide (0 ≤ g.bt ∧ 0 ≤ g.mt ∧ apW g.bs x ≤ IntKind.u64.wrap g.bt ∧ apW g.mo y ≤ IntKind.u64.wrap g.mt)
set_option linter.unusedSimpArgs false in
set_option maxRecDepth 100000 in
set_option maxHeartbeats 4000000 in
theorem gapart_any (a b : Int) (w : World) : Calls Try.prog 42 #[.int .i64 a, .int .i64 b] w fun e w' => e = .returned (.int .u64 (apW a b)) ∧ Below w.heap.size w w' := by
  unfold apW
  by_cases h : a < b
  · rw [if_pos h]
    go_enter Try.func42, Try.ntmps42
    go_wp2
    go_ret
    exact ⟨rfl, Below.refl _ _⟩
  · rw [if_neg h]
    go_enter Try.func42, Try.ntmps42
    go_wp2
    go_ret
    exact ⟨rfl, Below.refl _ _⟩
set_option linter.unusedSimpArgs false in
set_option maxRecDepth 100000 in
set_option maxHeartbeats 4000000 in
theorem rapart_any (a b : Int) (w : World) : Calls Try.prog 86 #[.int .i64 a, .int .i64 b] w fun e w' => e = .returned (.int .u64 (apW a b)) ∧ Below w.heap.size w w' := by
  unfold apW
  by_cases h : a < b
  · rw [if_pos h]
    go_enter Try.func86, Try.ntmps86
    go_wp2
    go_ret
    exact ⟨rfl, Below.refl _ _⟩
  · rw [if_neg h]
    go_enter Try.func86, Try.ntmps86
    go_wp2
    go_ret
    exact ⟨rfl, Below.refl _ _⟩
set_option linter.unusedSimpArgs false in
set_option maxRecDepth 100000 in
set_option maxHeartbeats 4000000 in
theorem rwithin_any (a b t : Int) (w : World) : Calls Try.prog 57 #[.int .i64 a, .int .i64 b, .int .i64 t] w fun e w' => e = .returned (.bool (decide (0 ≤ t ∧ apW a b ≤ IntKind.u64.wrap t))) ∧ Below w.heap.size w w' := by
  obtain ⟨R, hR⟩ : ∃ R, decide (0 ≤ t ∧ apW a b ≤ IntKind.u64.wrap t) = R := ⟨_, rfl⟩
  rw [hR]
  have HR := hid hR
  clear hR
  by_cases h : 0 ≤ t
  rotate_left
  · obtain rfl : false = R := (decide_eq_false (fun e => h e.1)).symm.trans HR.out
    go_enter Try.func57, Try.ntmps57
    go_wp2
    go_ret
    exact ⟨rfl, Below.refl _ _⟩
  go_enter Try.func57, Try.ntmps57
  go_wp2_with fail
  refine (rapart_any a b _).mono ?_
  rintro e w1 ⟨rfl, hb⟩
  have B1 := hid hb
  clear hb
  by_cases h2 : apW a b ≤ IntKind.u64.wrap t
  · obtain rfl : true = R := (decide_eq_true ⟨h, h2⟩).symm.trans HR.out
    go_wp2
    go_ret
    first | exact ⟨rfl, B1.out⟩ | exact ⟨ret_b (by simp [h2]), B1.out⟩
  · obtain rfl : false = R := (decide_eq_false (fun e => h2 e.2)).symm.trans HR.out
    go_wp2
    go_ret
    first | exact ⟨rfl, B1.out⟩ | exact ⟨ret_b (by simp [h2]), B1.out⟩
set_option linter.unusedSimpArgs false in
set_option maxRecDepth 100000 in
set_option maxHeartbeats 4000000 in
theorem rmeets_any (g : GR) (x y : Int) (w : World) : Calls Try.prog 38 #[.agg #[.string g.nm, .int .i64 g.bs, .int .i64 g.bt, .int .i64 g.mo, .int .i64 g.mt, .int .i64 g.ca, .slice g.ra g.rn g.rc, .int .i64 g.pr], .agg #[.int .i64 x, .int .i64 y]] w fun e w' => e = .returned (.bool (meetB g x y)) ∧ Below w.heap.size w w' := by
  obtain ⟨R, hR⟩ : ∃ R, meetB g x y = R := ⟨_, rfl⟩
  rw [hR]
  have HR := hid hR
  clear hR
  have D0 := hid (Blk.alloc (Blk.at_new w (b := w.heap.size) (t := 32) (cs := #[.string g.nm, .int .i64 g.bs, .int .i64 g.bt, .int .i64 g.mo, .int .i64 g.mt, .int .i64 g.ca, .slice g.ra g.rn g.rc, .int .i64 g.pr]) rfl) (.cells #[.int .i64 x, .int .i64 y] 60))
  have Z0 := hid (Blk.at_new (w.alloc (.cells #[.string g.nm, .int .i64 g.bs, .int .i64 g.bt, .int .i64 g.mo, .int .i64 g.mt, .int .i64 g.ca, .slice g.ra g.rn g.rc, .int .i64 g.pr] 32)) (b := w.heap.size + 1) (t := 60) (cs := #[.int .i64 x, .int .i64 y]) (by simp))
  have B0 := hid (((Below.refl w.heap.size w).alloc (Nat.le_refl _) (.cells #[.string g.nm, .int .i64 g.bs, .int .i64 g.bt, .int .i64 g.mo, .int .i64 g.mt, .int .i64 g.ca, .slice g.ra g.rn g.rc, .int .i64 g.pr] 32)).alloc (by simp) (.cells #[.int .i64 x, .int .i64 y] 60))
  have c0 := D0.out.cell
  go_enter Try.func38, Try.ntmps38
  go_wp2_with fail
  refine (rwithin_any g.bs x g.bt _).mono ?_
  rintro e w1 ⟨rfl, hb⟩
  have B1 := hid (B0.out.trans (hb.mono B0.out.size))
  have D1 := hid (D0.out.below hb D0.out.lt)
  have Z1 := hid (Z0.out.below hb Z0.out.lt)
  clear hb c0
  by_cases h1 : 0 ≤ g.bt ∧ apW g.bs x ≤ IntKind.u64.wrap g.bt
  rotate_left
  · rw [show decide (0 ≤ g.bt ∧ apW g.bs x ≤ IntKind.u64.wrap g.bt) = false from decide_eq_false h1]
    obtain rfl : false = R := (decide_eq_false (fun e => h1 ⟨e.1, e.2.2.1⟩)).symm.trans HR.out
    clear h1
    go_wp2
    go_ret
    exact ⟨rfl, B1.out⟩
  rw [show decide (0 ≤ g.bt ∧ apW g.bs x ≤ IntKind.u64.wrap g.bt) = true from decide_eq_true h1]
  have H1 := hid h1
  clear h1
  have c1 := D1.out.cell
  have z1 := Z1.out.cell
  go_wp2_with fail
  refine (rwithin_any g.mo y g.mt _).mono ?_
  rintro e w2 ⟨rfl, hb⟩
  have B2 := hid (B1.out.trans (hb.mono B1.out.size))
  clear hb c1 z1
  rw [show decide (0 ≤ g.mt ∧ apW g.mo y ≤ IntKind.u64.wrap g.mt) = R from (decide_eq_decide.2 ⟨fun e => ⟨H1.out.1, e.1, H1.out.2, e.2⟩, fun e => ⟨e.2.1, e.2.2.2⟩⟩).trans HR.out]
  go_wp2
  go_ret
  exact ⟨rfl, B2.out⟩
set_option linter.unusedSimpArgs false in
set_option maxRecDepth 100000 in
set_option maxHeartbeats 4000000 in
theorem meets_any (g : GR) (x y : Int) (w : World) : Calls Try.prog 24 #[.agg #[.string g.nm, .int .i64 g.bs, .int .i64 g.bt, .int .i64 g.mo, .int .i64 g.mt, .int .i64 g.ca, .slice g.ra g.rn g.rc, .int .i64 g.pr], .agg #[.int .i64 x, .int .i64 y]] w fun e w' => e = .returned (.bool (meetB g x y)) ∧ Below w.heap.size w w' := by
  obtain ⟨R, hR⟩ : ∃ R, meetB g x y = R := ⟨_, rfl⟩
  rw [hR]
  have HR := hid hR
  clear hR
  have D0 := hid (Blk.alloc (Blk.at_new w (b := w.heap.size) (t := 32) (cs := #[.string g.nm, .int .i64 g.bs, .int .i64 g.bt, .int .i64 g.mo, .int .i64 g.mt, .int .i64 g.ca, .slice g.ra g.rn g.rc, .int .i64 g.pr]) rfl) (.cells #[.int .i64 x, .int .i64 y] 60))
  have Z0 := hid (Blk.at_new (w.alloc (.cells #[.string g.nm, .int .i64 g.bs, .int .i64 g.bt, .int .i64 g.mo, .int .i64 g.mt, .int .i64 g.ca, .slice g.ra g.rn g.rc, .int .i64 g.pr] 32)) (b := w.heap.size + 1) (t := 60) (cs := #[.int .i64 x, .int .i64 y]) (by simp))
  have B0 := hid (((Below.refl w.heap.size w).alloc (Nat.le_refl _) (.cells #[.string g.nm, .int .i64 g.bs, .int .i64 g.bt, .int .i64 g.mo, .int .i64 g.mt, .int .i64 g.ca, .slice g.ra g.rn g.rc, .int .i64 g.pr] 32)).alloc (by simp) (.cells #[.int .i64 x, .int .i64 y] 60))
  have c0 := D0.out.cell
  by_cases h1 : 0 ≤ g.bt
  rotate_left
  · obtain rfl : false = R := (decide_eq_false (fun e => h1 e.1)).symm.trans HR.out
    go_enter Try.func24, Try.ntmps24
    go_wp2
    go_ret
    exact ⟨rfl, B0.out⟩
  by_cases h2 : 0 ≤ g.mt
  rotate_left
  · obtain rfl : false = R := (decide_eq_false (fun e => h2 e.2.1)).symm.trans HR.out
    go_enter Try.func24, Try.ntmps24
    go_wp2
    go_ret
    exact ⟨rfl, B0.out⟩
  go_enter Try.func24, Try.ntmps24
  go_upto_region 3 with fail
  clear c0
  generalize ((w.alloc (.cells #[.string g.nm, .int .i64 g.bs, .int .i64 g.bt, .int .i64 g.mo, .int .i64 g.mt, .int .i64 g.ca, .slice g.ra g.rn g.rc, .int .i64 g.pr] 32)).alloc (.cells #[.int .i64 x, .int .i64 y] 60)) = wq at D0 Z0 B0 ⊢
  have Dq := hid D0.out
  have Zq := hid Z0.out
  have Bq := hid B0.out
  by_cases h3 : apW g.bs x ≤ IntKind.u64.wrap g.bt
  rotate_left
  · obtain rfl : false = R := (decide_eq_false (fun e => h3 e.2.2.1)).symm.trans HR.out
    refine wp_region_hand (fun w' => Blk w' w.heap.size 32 #[.string g.nm, .int .i64 g.bs, .int .i64 g.bt, .int .i64 g.mo, .int .i64 g.mt, .int .i64 g.ca, .slice g.ra g.rn g.rc, .int .i64 g.pr] ∧ Blk w' (w.heap.size + 1) 60 #[.int .i64 x, .int .i64 y]) (by kernel_rfl) ?_
    simp only [List.length_cons, List.length_nil, Nat.zero_add, Nat.reduceAdd]
    have hS : Blk wq.drew w.heap.size 32 #[.string g.nm, .int .i64 g.bs, .int .i64 g.bt, .int .i64 g.mo, .int .i64 g.mt, .int .i64 g.ca, .slice g.ra g.rn g.rc, .int .i64 g.pr] ∧ Blk wq.drew (w.heap.size + 1) 60 #[.int .i64 x, .int .i64 y] := ⟨Dq.out, Zq.out⟩
    refine take_at (i := 0) (v := ?_) rfl rfl (by kernel_rfl) (by kernel_rfl) (by kernel_rfl) (fun _ _ _ h => h) (Or.inl ⟨by rfl, ?_⟩) hS ?_
    rotate_left
    · intro w hSw; (try dsimp only at hSw); go_simp; try with_reducible rfl
    try simp only [List.setIfInBounds_toArray, List.set_cons_zero, List.set_cons_succ]
    refine take_at (i := 1) (v := ?_) rfl rfl (by kernel_rfl) (by kernel_rfl) (by kernel_rfl) (fun _ _ _ h => h) (Or.inl ⟨by rfl, ?_⟩) hS ?_
    rotate_left
    · intro wi hSw; have ci0 := hSw.1.cell; go_simp; try with_reducible rfl
    try simp only [List.setIfInBounds_toArray, List.set_cons_zero, List.set_cons_succ]
    refine take_at (i := 2) (v := ?_) rfl rfl (by kernel_rfl) (by kernel_rfl) (by kernel_rfl) (fun _ _ _ h => h) (Or.inl ⟨by rfl, ?_⟩) hS ?_
    rotate_left
    · intro w hSw; (try dsimp only at hSw); go_simp; try with_reducible rfl
    try simp only [List.setIfInBounds_toArray, List.set_cons_zero, List.set_cons_succ]
    refine take_at (i := 3) (v := ?_) rfl rfl (by kernel_rfl) (by kernel_rfl) (by kernel_rfl) (fun _ _ _ h => h) (Or.inl ⟨by rfl, ?_⟩) hS ?_
    rotate_left
    · intro wi hSw; have ci0 := hSw.2.cell; go_simp; try with_reducible rfl
    try simp only [List.setIfInBounds_toArray, List.set_cons_zero, List.set_cons_succ]
    refine take_at (i := 5) (v := ?_) rfl rfl (by kernel_rfl) (by kernel_rfl) (by kernel_rfl) (fun _ _ _ h => h) (Or.inl ⟨by rfl, ?_⟩) hS ?_
    rotate_left
    · intro w hSw; (try dsimp only at hSw); go_simp; try with_reducible rfl
    try simp only [List.setIfInBounds_toArray, List.set_cons_zero, List.set_cons_succ]
    refine take_at (i := 6) (v := ?_) rfl rfl (by kernel_rfl) (by kernel_rfl) (by kernel_rfl) (fun _ _ _ h => h) (Or.inl ⟨by rfl, ?_⟩) hS ?_
    rotate_left
    · intro wi hSw; have ci0 := hSw.1.cell; go_simp; try with_reducible rfl
    try simp only [List.setIfInBounds_toArray, List.set_cons_zero, List.set_cons_succ]
    refine take_at (i := 7) (v := ?_) rfl rfl (by kernel_rfl) (by kernel_rfl) (by kernel_rfl) (fun _ _ _ h => h) (Or.inl ⟨by rfl, ?_⟩) hS ?_
    rotate_left
    · intro w hSw; (try dsimp only at hSw); go_simp; try with_reducible rfl
    try simp only [List.setIfInBounds_toArray, List.set_cons_zero, List.set_cons_succ]
    refine wpAnyH_ready (rs := [4]) (by kernel_rfl) (by simp) ?_
    refine AllReadyH.cons rfl (fun K hK => ?_) AllReadyH.nil
    go_simp
    (go_at_call 42; refine (gapart_any g.bs x _).mono ?_; rintro e w5 ⟨rfl, hb⟩; have HB5 := hid (show Below wq.heap.size wq w5 from by first | exact hb | exact (Below.drew (Below.refl _ _)).trans hb); have D5 := hid (Dq.out.below HB5.out Dq.out.lt); have Z5 := hid (Zq.out.below HB5.out Zq.out.lt); have B5 := hid (Bq.out.trans (HB5.out.mono Bq.out.size)); clear hb hS)
    refine hK.out _ _ ⟨D5.out, Z5.out⟩ (fun hS => ?_)
    clear hK K
    try simp only [Act.put, List.setIfInBounds_toArray, List.set_cons_zero, List.set_cons_succ]
    refine take_at (i := 8) (v := .bool false) rfl rfl (by kernel_rfl) (by kernel_rfl) (by kernel_rfl) (fun _ _ _ h => h) (Or.inl ⟨by rfl, ?_⟩) hS ?_
    · intro wi hSw; go_simp; first | done | (simp; done) | (simp; omega)
    try simp only [List.setIfInBounds_toArray, List.set_cons_zero, List.set_cons_succ]
    refine take_at (i := 9) (v := ?_) rfl rfl (by kernel_rfl) (by kernel_rfl) (by kernel_rfl) (fun _ _ _ h => h) (Or.inl ⟨by rfl, ?_⟩) hS ?_
    rotate_left
    · intro w hSw; (try dsimp only at hSw); go_simp; try with_reducible rfl
    try simp only [List.setIfInBounds_toArray, List.set_cons_zero, List.set_cons_succ]
    refine take_at (i := 10) (v := undef) rfl rfl (by kernel_rfl) (by kernel_rfl) (by kernel_rfl) (fun _ _ _ h => h) (Or.inr ⟨by kernel_rfl, rfl⟩) hS ?_
    try simp only [List.setIfInBounds_toArray, List.set_cons_zero, List.set_cons_succ]
    refine take_at (i := 11) (v := undef) rfl rfl (by kernel_rfl) (by kernel_rfl) (by kernel_rfl) (fun _ _ _ h => h) (Or.inr ⟨by kernel_rfl, rfl⟩) hS ?_
    try simp only [List.setIfInBounds_toArray, List.set_cons_zero, List.set_cons_succ]
    refine take_at (i := 12) (v := undef) rfl rfl (by kernel_rfl) (by kernel_rfl) (by kernel_rfl) (fun _ _ _ h => h) (Or.inr ⟨by kernel_rfl, rfl⟩) hS ?_
    try simp only [List.setIfInBounds_toArray, List.set_cons_zero, List.set_cons_succ]
    refine take_at (i := 13) (v := undef) rfl rfl (by kernel_rfl) (by kernel_rfl) (by kernel_rfl) (fun _ _ _ h => h) (Or.inr ⟨by kernel_rfl, rfl⟩) hS ?_
    try simp only [List.setIfInBounds_toArray, List.set_cons_zero, List.set_cons_succ]
    refine take_at (i := 14) (v := undef) rfl rfl (by kernel_rfl) (by kernel_rfl) (by kernel_rfl) (fun _ _ _ h => h) (Or.inr ⟨by kernel_rfl, rfl⟩) hS ?_
    try simp only [List.setIfInBounds_toArray, List.set_cons_zero, List.set_cons_succ]
    refine take_at (i := 15) (v := undef) rfl rfl (by kernel_rfl) (by kernel_rfl) (by kernel_rfl) (fun _ _ _ h => h) (Or.inr ⟨by kernel_rfl, rfl⟩) hS ?_
    try simp only [List.setIfInBounds_toArray, List.set_cons_zero, List.set_cons_succ]
    refine take_at (i := 16) (v := undef) rfl rfl (by kernel_rfl) (by kernel_rfl) (by kernel_rfl) (fun _ _ _ h => h) (Or.inr ⟨by kernel_rfl, rfl⟩) hS ?_
    try simp only [List.setIfInBounds_toArray, List.set_cons_zero, List.set_cons_succ]
    refine take_at (i := 17) (v := undef) rfl rfl (by kernel_rfl) (by kernel_rfl) (by kernel_rfl) (fun _ _ _ h => h) (Or.inr ⟨by kernel_rfl, rfl⟩) hS ?_
    try simp only [List.setIfInBounds_toArray, List.set_cons_zero, List.set_cons_succ]
    refine take_at (i := 18) (v := undef) rfl rfl (by kernel_rfl) (by kernel_rfl) (by kernel_rfl) (fun _ _ _ h => h) (Or.inr ⟨by kernel_rfl, rfl⟩) hS ?_
    try simp only [List.setIfInBounds_toArray, List.set_cons_zero, List.set_cons_succ]
    refine take_at (i := 19) (v := ?_) rfl rfl (by kernel_rfl) (by kernel_rfl) (by kernel_rfl) (fun _ _ _ h => h) (Or.inl ⟨by rfl, ?_⟩) hS ?_
    rotate_left
    · intro w hSw; (try dsimp only at hSw); go_simp; try with_reducible rfl
    try simp only [List.setIfInBounds_toArray, List.set_cons_zero, List.set_cons_succ]
    refine take_at (i := 20) (v := ?_) rfl rfl (by kernel_rfl) (by kernel_rfl) (by kernel_rfl) (fun _ _ _ h => h) (Or.inl ⟨by rfl, ?_⟩) hS ?_
    rotate_left
    · intro w hSw; (try dsimp only at hSw); go_simp; try with_reducible rfl
    try simp only [List.setIfInBounds_toArray, List.set_cons_zero, List.set_cons_succ]
    refine wpAnyH_done (by kernel_rfl) ?_ _
    simp only [Sure, Exit.then]
    clear hS
    go_wp2
    go_ret
    exact ⟨rfl, B5.out⟩
  refine wp_region_hand (fun w' => Blk w' w.heap.size 32 #[.string g.nm, .int .i64 g.bs, .int .i64 g.bt, .int .i64 g.mo, .int .i64 g.mt, .int .i64 g.ca, .slice g.ra g.rn g.rc, .int .i64 g.pr] ∧ Blk w' (w.heap.size + 1) 60 #[.int .i64 x, .int .i64 y]) (by kernel_rfl) ?_
  simp only [List.length_cons, List.length_nil, Nat.zero_add, Nat.reduceAdd]
  have hS : Blk wq.drew w.heap.size 32 #[.string g.nm, .int .i64 g.bs, .int .i64 g.bt, .int .i64 g.mo, .int .i64 g.mt, .int .i64 g.ca, .slice g.ra g.rn g.rc, .int .i64 g.pr] ∧ Blk wq.drew (w.heap.size + 1) 60 #[.int .i64 x, .int .i64 y] := ⟨Dq.out, Zq.out⟩
  refine take_at (i := 0) (v := ?_) rfl rfl (by kernel_rfl) (by kernel_rfl) (by kernel_rfl) (fun _ _ _ h => h) (Or.inl ⟨by rfl, ?_⟩) hS ?_
  rotate_left
  · intro w hSw; (try dsimp only at hSw); go_simp; try with_reducible rfl
  try simp only [List.setIfInBounds_toArray, List.set_cons_zero, List.set_cons_succ]
  refine take_at (i := 1) (v := ?_) rfl rfl (by kernel_rfl) (by kernel_rfl) (by kernel_rfl) (fun _ _ _ h => h) (Or.inl ⟨by rfl, ?_⟩) hS ?_
  rotate_left
  · intro wi hSw; have ci0 := hSw.1.cell; go_simp; try with_reducible rfl
  try simp only [List.setIfInBounds_toArray, List.set_cons_zero, List.set_cons_succ]
  refine take_at (i := 2) (v := ?_) rfl rfl (by kernel_rfl) (by kernel_rfl) (by kernel_rfl) (fun _ _ _ h => h) (Or.inl ⟨by rfl, ?_⟩) hS ?_
  rotate_left
  · intro w hSw; (try dsimp only at hSw); go_simp; try with_reducible rfl
  try simp only [List.setIfInBounds_toArray, List.set_cons_zero, List.set_cons_succ]
  refine take_at (i := 3) (v := ?_) rfl rfl (by kernel_rfl) (by kernel_rfl) (by kernel_rfl) (fun _ _ _ h => h) (Or.inl ⟨by rfl, ?_⟩) hS ?_
  rotate_left
  · intro wi hSw; have ci0 := hSw.2.cell; go_simp; try with_reducible rfl
  try simp only [List.setIfInBounds_toArray, List.set_cons_zero, List.set_cons_succ]
  refine take_at (i := 5) (v := ?_) rfl rfl (by kernel_rfl) (by kernel_rfl) (by kernel_rfl) (fun _ _ _ h => h) (Or.inl ⟨by rfl, ?_⟩) hS ?_
  rotate_left
  · intro w hSw; (try dsimp only at hSw); go_simp; try with_reducible rfl
  try simp only [List.setIfInBounds_toArray, List.set_cons_zero, List.set_cons_succ]
  refine take_at (i := 6) (v := ?_) rfl rfl (by kernel_rfl) (by kernel_rfl) (by kernel_rfl) (fun _ _ _ h => h) (Or.inl ⟨by rfl, ?_⟩) hS ?_
  rotate_left
  · intro wi hSw; have ci0 := hSw.1.cell; go_simp; try with_reducible rfl
  try simp only [List.setIfInBounds_toArray, List.set_cons_zero, List.set_cons_succ]
  refine take_at (i := 7) (v := ?_) rfl rfl (by kernel_rfl) (by kernel_rfl) (by kernel_rfl) (fun _ _ _ h => h) (Or.inl ⟨by rfl, ?_⟩) hS ?_
  rotate_left
  · intro w hSw; (try dsimp only at hSw); go_simp; try with_reducible rfl
  try simp only [List.setIfInBounds_toArray, List.set_cons_zero, List.set_cons_succ]
  refine wpAnyH_ready (rs := [4]) (by kernel_rfl) (by simp) ?_
  refine AllReadyH.cons rfl (fun K hK => ?_) AllReadyH.nil
  go_simp
  (go_at_call 42; refine (gapart_any g.bs x _).mono ?_; rintro e w5 ⟨rfl, hb⟩; have HB5 := hid (show Below wq.heap.size wq w5 from by first | exact hb | exact (Below.drew (Below.refl _ _)).trans hb); have D5 := hid (Dq.out.below HB5.out Dq.out.lt); have Z5 := hid (Zq.out.below HB5.out Zq.out.lt); have B5 := hid (Bq.out.trans (HB5.out.mono Bq.out.size)); clear hb hS)
  refine hK.out _ _ ⟨D5.out, Z5.out⟩ (fun hS => ?_)
  clear hK K
  try simp only [Act.put, List.setIfInBounds_toArray, List.set_cons_zero, List.set_cons_succ]
  refine take_at (i := 8) (v := .bool true) rfl rfl (by kernel_rfl) (by kernel_rfl) (by kernel_rfl) (fun _ _ _ h => h) (Or.inl ⟨by rfl, ?_⟩) hS ?_
  · intro wi hSw; go_simp; first | done | (simp; done) | (simp; omega)
  try simp only [List.setIfInBounds_toArray, List.set_cons_zero, List.set_cons_succ]
  refine take_at (i := 9) (v := ?_) rfl rfl (by kernel_rfl) (by kernel_rfl) (by kernel_rfl) (fun _ _ _ h => h) (Or.inl ⟨by rfl, ?_⟩) hS ?_
  rotate_left
  · intro w hSw; (try dsimp only at hSw); go_simp; try with_reducible rfl
  try simp only [List.setIfInBounds_toArray, List.set_cons_zero, List.set_cons_succ]
  refine take_at (i := 10) (v := ?_) rfl rfl (by kernel_rfl) (by kernel_rfl) (by kernel_rfl) (fun _ _ _ h => h) (Or.inl ⟨by rfl, ?_⟩) hS ?_
  rotate_left
  · intro w hSw; (try dsimp only at hSw); go_simp; try with_reducible rfl
  try simp only [List.setIfInBounds_toArray, List.set_cons_zero, List.set_cons_succ]
  refine take_at (i := 11) (v := ?_) rfl rfl (by kernel_rfl) (by kernel_rfl) (by kernel_rfl) (fun _ _ _ h => h) (Or.inl ⟨by rfl, ?_⟩) hS ?_
  rotate_left
  · intro wi hSw; have ci0 := hSw.1.cell; go_simp; try with_reducible rfl
  try simp only [List.setIfInBounds_toArray, List.set_cons_zero, List.set_cons_succ]
  refine take_at (i := 12) (v := ?_) rfl rfl (by kernel_rfl) (by kernel_rfl) (by kernel_rfl) (fun _ _ _ h => h) (Or.inl ⟨by rfl, ?_⟩) hS ?_
  rotate_left
  · intro w hSw; (try dsimp only at hSw); go_simp; try with_reducible rfl
  try simp only [List.setIfInBounds_toArray, List.set_cons_zero, List.set_cons_succ]
  refine take_at (i := 13) (v := ?_) rfl rfl (by kernel_rfl) (by kernel_rfl) (by kernel_rfl) (fun _ _ _ h => h) (Or.inl ⟨by rfl, ?_⟩) hS ?_
  rotate_left
  · intro wi hSw; have ci0 := hSw.2.cell; go_simp; try with_reducible rfl
  try simp only [List.setIfInBounds_toArray, List.set_cons_zero, List.set_cons_succ]
  refine take_at (i := 15) (v := ?_) rfl rfl (by kernel_rfl) (by kernel_rfl) (by kernel_rfl) (fun _ _ _ h => h) (Or.inl ⟨by rfl, ?_⟩) hS ?_
  rotate_left
  · intro w hSw; (try dsimp only at hSw); go_simp; try with_reducible rfl
  try simp only [List.setIfInBounds_toArray, List.set_cons_zero, List.set_cons_succ]
  refine take_at (i := 16) (v := ?_) rfl rfl (by kernel_rfl) (by kernel_rfl) (by kernel_rfl) (fun _ _ _ h => h) (Or.inl ⟨by rfl, ?_⟩) hS ?_
  rotate_left
  · intro wi hSw; have ci0 := hSw.1.cell; go_simp; try with_reducible rfl
  try simp only [List.setIfInBounds_toArray, List.set_cons_zero, List.set_cons_succ]
  refine take_at (i := 17) (v := ?_) rfl rfl (by kernel_rfl) (by kernel_rfl) (by kernel_rfl) (fun _ _ _ h => h) (Or.inl ⟨by rfl, ?_⟩) hS ?_
  rotate_left
  · intro w hSw; (try dsimp only at hSw); go_simp; try with_reducible rfl
  try simp only [List.setIfInBounds_toArray, List.set_cons_zero, List.set_cons_succ]
  refine wpAnyH_ready (rs := [14]) (by kernel_rfl) (by simp) ?_
  refine AllReadyH.cons rfl (fun K hK => ?_) AllReadyH.nil
  go_simp
  (go_at_call 42; refine (gapart_any g.mo y _).mono ?_; rintro e w6 ⟨rfl, hb⟩; have HB6 := hid (show Below w5.heap.size w5 w6 from by first | exact hb | exact (Below.drew (Below.refl _ _)).trans hb); have D6 := hid (D5.out.below HB6.out D5.out.lt); have Z6 := hid (Z5.out.below HB6.out Z5.out.lt); have B6 := hid (B5.out.trans (HB6.out.mono B5.out.size)); clear hb hS)
  refine hK.out _ _ ⟨D6.out, Z6.out⟩ (fun hS => ?_)
  clear hK K
  try simp only [Act.put, List.setIfInBounds_toArray, List.set_cons_zero, List.set_cons_succ]
  by_cases h4 : apW g.mo y ≤ IntKind.u64.wrap g.mt
  · obtain rfl : true = R := (decide_eq_true ⟨h1, h2, h3, h4⟩).symm.trans HR.out
    refine take_at (i := 18) (v := .bool true) rfl rfl (by kernel_rfl) (by kernel_rfl) (by kernel_rfl) (fun _ _ _ h => h) (Or.inl ⟨by rfl, ?_⟩) hS ?_
    · intro wi hSw; go_simp; first | done | (simp; done) | (simp; omega)
    try simp only [List.setIfInBounds_toArray, List.set_cons_zero, List.set_cons_succ]
    refine take_at (i := 19) (v := ?_) rfl rfl (by kernel_rfl) (by kernel_rfl) (by kernel_rfl) (fun _ _ _ h => h) (Or.inl ⟨by rfl, ?_⟩) hS ?_
    rotate_left
    · intro w hSw; (try dsimp only at hSw); go_simp; try with_reducible rfl
    try simp only [List.setIfInBounds_toArray, List.set_cons_zero, List.set_cons_succ]
    refine take_at (i := 20) (v := ?_) rfl rfl (by kernel_rfl) (by kernel_rfl) (by kernel_rfl) (fun _ _ _ h => h) (Or.inl ⟨by rfl, ?_⟩) hS ?_
    rotate_left
    · intro w hSw; (try dsimp only at hSw); go_simp; try with_reducible rfl
    try simp only [List.setIfInBounds_toArray, List.set_cons_zero, List.set_cons_succ]
    refine wpAnyH_done (by kernel_rfl) ?_ _
    simp only [Sure, Exit.then]
    clear hS
    go_wp2
    go_ret
    exact ⟨rfl, B6.out⟩
  · obtain rfl : false = R := (decide_eq_false (fun e => h4 e.2.2.2)).symm.trans HR.out
    refine take_at (i := 18) (v := .bool false) rfl rfl (by kernel_rfl) (by kernel_rfl) (by kernel_rfl) (fun _ _ _ h => h) (Or.inl ⟨by rfl, ?_⟩) hS ?_
    · intro wi hSw; go_simp; first | done | (simp; done) | (simp; omega)
    try simp only [List.setIfInBounds_toArray, List.set_cons_zero, List.set_cons_succ]
    refine take_at (i := 19) (v := ?_) rfl rfl (by kernel_rfl) (by kernel_rfl) (by kernel_rfl) (fun _ _ _ h => h) (Or.inl ⟨by rfl, ?_⟩) hS ?_
    rotate_left
    · intro w hSw; (try dsimp only at hSw); go_simp; try with_reducible rfl
    try simp only [List.setIfInBounds_toArray, List.set_cons_zero, List.set_cons_succ]
    refine take_at (i := 20) (v := ?_) rfl rfl (by kernel_rfl) (by kernel_rfl) (by kernel_rfl) (fun _ _ _ h => h) (Or.inl ⟨by rfl, ?_⟩) hS ?_
    rotate_left
    · intro w hSw; (try dsimp only at hSw); go_simp; try with_reducible rfl
    try simp only [List.setIfInBounds_toArray, List.set_cons_zero, List.set_cons_succ]
    refine wpAnyH_done (by kernel_rfl) ?_ _
    simp only [Sure, Exit.then]
    clear hS
    go_wp2
    go_ret
    exact ⟨rfl, B6.out⟩
end Go.Proofs.Ytddphdkhaaolmaa
