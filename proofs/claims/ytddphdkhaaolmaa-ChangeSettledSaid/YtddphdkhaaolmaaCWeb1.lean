/- Chapter 28: what is permitted. -/
import Derived.Test.YtddphdkhaaolmaaKRRest
import Derived.Test.YtddphdkhaaolmaaCKCPlain
namespace Go.Proofs.Ytddphdkhaaolmaa
open Go.RowKit

/-- A closed loop. -/
structure CP where
  kp : Int
  ki : Int
  sh : Int
  lo : Int
  hi : Int
  rate : Int
  ga : Int
  la : Int
  de : Int
namespace CP
def err (b : CP) : Int := chkC b.kp b.ki b.sh b.lo b.hi b.rate b.ga b.la b.de
def rErr (b : CP) (o v : Int) (S D : List Int) : Int := runErr b.kp b.ki b.sh b.lo b.hi b.rate b.ga b.la b.de o v S D
def rows (b : CP) (o v : Int) (S D : List Int) : List (List Int) := runRows b.kp b.ki b.sh b.lo b.hi b.rate b.ga b.la b.de o v S D
def lErr (b : CP) (x : Int) : Int := limErr b.kp b.ki b.sh b.lo b.hi b.rate b.ga b.la b.de x
def lLo (b : CP) (x : Int) : Int := limLo b.kp b.ki b.sh b.lo b.hi b.rate b.ga b.la b.de x
def lHi (b : CP) (x : Int) : Int := limHi b.kp b.ki b.sh b.lo b.hi b.rate b.ga b.la b.de x
end CP
def chkW (b m : CP) (c : Int) : Int := if b.err ≠ 0 then b.err else if m.err ≠ 0 then m.err else if -256 ≤ c ∧ c ≤ 256 then 0 else 1
theorem chkW_ok {b m : CP} {c : Int} (h : chkW b m c = 0) : b.err = 0 ∧ m.err = 0 ∧ -256 ≤ c ∧ c ≤ 256 := by
  unfold chkW at h
  split at h
  · rename_i hq; exact absurd h hq
  · rename_i hq
    split at h
    · rename_i hq2; exact absurd h hq2
    · rename_i hq2
      split at h
      · rename_i hb; exact ⟨by simpa using hq, by simpa using hq2, hb⟩
      · cases h
theorem cchk (b : CP) (w : World) : Calls Try.prog 41 #[.agg #[.int .i64 b.kp, .int .i64 b.ki, .int .i64 b.sh, .int .i64 b.lo, .int .i64 b.hi, .int .i64 b.rate, .int .i64 b.ga, .int .i64 b.la, .int .i64 b.de]] w fun e w' => e = .returned (.int .i64 b.err) ∧ Below w.heap.size w w' := ccheck_any _ _ _ _ _ _ _ _ _ _
theorem rcchk (b : CP) (w : World) : Calls Try.prog 49 #[.agg #[.int .i64 b.kp, .int .i64 b.ki, .int .i64 b.sh, .int .i64 b.lo, .int .i64 b.hi, .int .i64 b.rate, .int .i64 b.ga, .int .i64 b.la, .int .i64 b.de]] w fun e w' => e = .returned (.int .i64 b.err) ∧ Below w.heap.size w w' := rccheck_any _ _ _ _ _ _ _ _ _ _
/-- What Run returns. -/
def RPost (b : CP) (o v : Int) (S D : List Int) (w : World) : Ending → World → Prop := fun e w' => ∃ u, e = .returned (.tuple #[u, .int .i64 (b.rErr o v S D)]) ∧ NewRows w w' u (b.rows o v S D)
theorem crun (b : CP) (o v : Int) (a1 a2 : Option Addr) (c1 c2 n1 n2 : Nat) (S D : List Int) (w : World) (r1 : Rds Nn w 1 a1 n1 (ints S)) (r2 : Rds Nn w 1 a2 n2 (ints D)) (h1 : n1 = S.length) (h2 : n2 = D.length) (hn : S.length ≤ 1000000) : Calls Try.prog 45 #[.agg #[.int .i64 b.kp, .int .i64 b.ki, .int .i64 b.sh, .int .i64 b.lo, .int .i64 b.hi, .int .i64 b.rate, .int .i64 b.ga, .int .i64 b.la, .int .i64 b.de], .int .i64 o, .int .i64 v, .slice a1 n1 c1, .slice a2 n2 c2] w (RPost b o v S D w) := by
  subst h1 h2
  exact run_any _ _ _ _ _ _ _ _ _ _ _ _ _ _ _ S D w r1 r2 hn
theorem rcrun (b : CP) (o v : Int) (a1 a2 : Option Addr) (c1 c2 n1 n2 : Nat) (S D : List Int) (w : World) (r1 : Rds Nn w 1 a1 n1 (ints S)) (r2 : Rds Nn w 1 a2 n2 (ints D)) (h1 : n1 = S.length) (h2 : n2 = D.length) (hn : S.length ≤ 1000000) : Calls Try.prog 53 #[.agg #[.int .i64 b.kp, .int .i64 b.ki, .int .i64 b.sh, .int .i64 b.lo, .int .i64 b.hi, .int .i64 b.rate, .int .i64 b.ga, .int .i64 b.la, .int .i64 b.de], .int .i64 o, .int .i64 v, .slice a1 n1 c1, .slice a2 n2 c2] w (RPost b o v S D w) := by
  subst h1 h2
  exact rrun_any _ _ _ _ _ _ _ _ _ _ _ _ _ _ _ S D w r1 r2 hn
/-- A disturbance with what the basis weight adds. -/
def coup (c x : Int) : Int := c * x / 256
def lim (n : Int) : Int := max (-65536) (min n 65536)
theorem lim_in (n : Int) : -65536 ≤ lim n ∧ lim n ≤ 65536 := by unfold lim; omega
theorem coup_bd {c x X : Int} (h : -256 ≤ c ∧ c ≤ 256) (hx : -X ≤ x ∧ x ≤ X) (h0 : 0 ≤ X) : -(256 * X) ≤ c * x ∧ c * x ≤ 256 * X ∧ -X ≤ coup c x ∧ coup c x ≤ X := by
  have h1 : (c * x).natAbs ≤ 256 * X.natAbs := by
    rw [Int.natAbs_mul]
    exact Nat.mul_le_mul (by omega) (by omega)
  have h2 : -(256 * X) ≤ c * x ∧ c * x ≤ 256 * X := by omega
  refine ⟨h2.1, h2.2, ?_, ?_⟩
  · unfold coup; omega
  · unfold coup; omega
theorem limited_any (n : Int) (w : World) (h : -1152921504606846976 ≤ n ∧ n ≤ 1152921504606846976) : Calls Try.prog 46 #[.int .i64 n] w fun e w' => e = .returned (.int .i64 (lim n)) ∧ w = w' := by
  go_enter Try.func46, Try.ntmps46
  go_wp2
  all_goals go_ret
  all_goals exact ⟨ret_i (by simp [lim] <;> omega), rfl⟩
theorem win_any (n lo hi : Int) (w : World) : Calls Try.prog 43 #[.int .i64 n, .int .i64 lo, .int .i64 hi] w fun e w' => e = .returned (.bool (Ct.inB n lo hi)) ∧ w = w' := by
  go_enter Try.func43, Try.ntmps43
  go_wp2
  all_goals go_ret
  all_goals refine ⟨ret_b ?_, rfl⟩
  all_goals simp [Ct.inB] <;> omega
theorem rwsignal_any (n : Int) (w : World) : Calls Try.prog 50 #[.int .i64 n] w fun e w' => e = .returned (.bool (absB n 16777216)) ∧ w = w' := by
  go_enter Try.func50, Try.ntmps50
  go_wp2
  all_goals go_ret
  all_goals refine ⟨ret_b ?_, rfl⟩
  all_goals simp [absB] <;> omega
theorem rcoup_any (c x : Int) (w : World) (h : -256 ≤ c ∧ c ≤ 256) (hx : -4503599627370496 ≤ x ∧ x ≤ 4503599627370496) : Calls Try.prog 56 #[.int .i64 c, .int .i64 x] w fun e w' => e = .returned (.int .i64 (coup c x)) ∧ w = w' := by
  have hc := coup_bd h hx (by omega)
  go_enter Try.func56, Try.ntmps56
  go_wp2_with (go_at_call 85; refine (Ct.down_any _ _ _ (by omega) (by omega) (by omega) (by omega)).mono ?_; rintro e v9 ⟨rfl, rfl⟩)
  go_ret
  exact ⟨ret_i rfl, rfl⟩
set_option maxRecDepth 100000 in
set_option maxHeartbeats 1000000 in
theorem coup_any (b m : CP) (cp : Int) (x y : Int) (w : World) (h : -256 ≤ cp ∧ cp ≤ 256) (hx : -4503599627370496 ≤ x - y ∧ x - y ≤ 4503599627370496) : Calls Try.prog 47 #[.agg #[.int .i64 b.kp, .int .i64 b.ki, .int .i64 b.sh, .int .i64 b.lo, .int .i64 b.hi, .int .i64 b.rate, .int .i64 b.ga, .int .i64 b.la, .int .i64 b.de, .int .i64 m.kp, .int .i64 m.ki, .int .i64 m.sh, .int .i64 m.lo, .int .i64 m.hi, .int .i64 m.rate, .int .i64 m.ga, .int .i64 m.la, .int .i64 m.de, .int .i64 cp], .int .i64 x, .int .i64 y] w fun e w' => e = .returned (.int .i64 (coup cp (x - y))) ∧ Below w.heap.size w w' := by
  have hc := coup_bd h hx (by omega)
  go_enter Try.func47, Try.ntmps47
  go_wp2
  go_ret
  exact ⟨ret_i rfl, (Below.refl _ _).alloc (Nat.le_refl _) _⟩
end Go.Proofs.Ytddphdkhaaolmaa
