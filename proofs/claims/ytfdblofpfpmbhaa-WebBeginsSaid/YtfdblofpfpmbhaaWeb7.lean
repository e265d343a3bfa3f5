/- Chapter 28: Limits of both. -/
import Derived.Test.YtfdblofpfpmbhaaWeb6
import Derived.Lib.MinMax
namespace Go.Proofs.Ytfdblofpfpmbhaa
open Go.RowKit

theorem CP.l_ok {b : CP} {x : Int} (h : b.err = 0) (hx : 0 ≤ x ∧ x ≤ 65536) : b.lErr x = 0 ∧ b.lLo x = tgt b.ga b.lo - x * b.la ∧ b.lHi x = tgt b.ga b.hi + x * b.la := by
  have he : limErr b.kp b.ki b.sh b.lo b.hi b.rate b.ga b.la b.de x = 0 := by
    unfold limErr
    rw [if_neg (by unfold CP.err at h; omega), if_pos hx]
  exact ⟨he, by unfold CP.lLo limLo; rw [if_pos he], by unfold CP.lHi limHi; rw [if_pos he]⟩
theorem CP.l_bd {b : CP} {x : Int} (h : b.err = 0) (hx : 0 ≤ x ∧ x ≤ 65536) : (-33554432 ≤ b.lLo x ∧ b.lLo x ≤ 33554432) ∧ (-33554432 ≤ b.lHi x ∧ b.lHi x ≤ 33554432) := by
  obtain ⟨_, h1, h2⟩ := CP.l_ok h hx
  obtain ⟨_, c2, c3, c4⟩ := chkC_ok h
  have ck := chkP_ok c2
  have b1 := absB_true c3
  have b2 := absB_true c4
  have h3 : 0 ≤ x * b.la := Int.mul_nonneg hx.1 (by omega)
  have h4 : x * b.la ≤ 65536 * 256 := Int.mul_le_mul hx.2 (by omega) (by omega) (by omega)
  rw [h1, h2]
  omega
def wlErr (b m : CP) (cp f t dB dM : Int) : Int := if chkW b m cp ≠ 0 then chkW b m cp else if (absB f 16777216 && absB t 16777216 && Ct.inB dB 0 65536 && Ct.inB dM 0 65536) = true then (if t < f then 9 else 0) else 1
/-- The greatest coupling. -/
def wlC (b : CP) (cp f t dB : Int) : Int := max (max (coup cp (b.lHi dB - f)) (-(coup cp (b.lHi dB - f)))) (max (coup cp (b.lLo dB - t)) (-(coup cp (b.lLo dB - t))))
def wlD (b : CP) (cp f t dB dM : Int) : Int := min 65536 (dM + wlC b cp f t dB)
def wl1 (b m : CP) (cp f t dB dM : Int) : Int := if wlErr b m cp f t dB dM = 0 then b.lLo dB else 0
def wl2 (b m : CP) (cp f t dB dM : Int) : Int := if wlErr b m cp f t dB dM = 0 then b.lHi dB else 0
def wl3 (b m : CP) (cp f t dB dM : Int) : Int := if wlErr b m cp f t dB dM = 0 then m.lLo (wlD b cp f t dB dM) else 0
def wl4 (b m : CP) (cp f t dB dM : Int) : Int := if wlErr b m cp f t dB dM = 0 then m.lHi (wlD b cp f t dB dM) else 0
def WLPost (b m : CP) (cp f t dB dM : Int) (w : World) : Ending → World → Prop := fun e w' => e = .returned (.tuple #[.agg #[.int .i64 (wl1 b m cp f t dB dM), .int .i64 (wl2 b m cp f t dB dM)], .agg #[.int .i64 (wl3 b m cp f t dB dM), .int .i64 (wl4 b m cp f t dB dM)], .int .i64 (wlErr b m cp f t dB dM)]) ∧ Below w.heap.size w w'
theorem wl_no {b m : CP} {cp f t dB dM x : Int} {w w' : World} (h : x = wlErr b m cp f t dB dM) (hx : x ≠ 0) (hb : Below w.heap.size w w') : WLPost b m cp f t dB dM w (.returned (.tuple #[.agg #[.int .i64 0, .int .i64 0], .agg #[.int .i64 0, .int .i64 0], .int .i64 x])) w' := by
  subst h
  unfold WLPost wl1 wl2 wl3 wl4
  rw [if_neg hx, if_neg hx, if_neg hx, if_neg hx]
  exact ⟨rfl, hb⟩
theorem wl_ok {b m : CP} {cp f t dB dM x1 x2 x3 x4 : Int} {w w' : World} (h : wlErr b m cp f t dB dM = 0) (h1 : x1 = b.lLo dB) (h2 : x2 = b.lHi dB) (h3 : x3 = m.lLo (wlD b cp f t dB dM)) (h4 : x4 = m.lHi (wlD b cp f t dB dM)) (hb : Below w.heap.size w w') : WLPost b m cp f t dB dM w (.returned (.tuple #[.agg #[.int .i64 x1, .int .i64 x2], .agg #[.int .i64 x3, .int .i64 x4], .int .i64 0])) w' := by
  subst h1 h2 h3 h4
  unfold WLPost wl1 wl2 wl3 wl4
  rw [if_pos h, if_pos h, if_pos h, if_pos h, h]
  exact ⟨rfl, hb⟩
theorem wlD_in {b : CP} {cp f t dB dM : Int} (h : 0 ≤ dM) : 0 ≤ wlD b cp f t dB dM ∧ wlD b cp f t dB dM ≤ 65536 := by unfold wlD wlC; omega
theorem wpList_load_blk2 {P : Program} {w : World} {b : Nat} {t e : TypeId} {cs : Array Value} {d : TypeDesc} {ops : Array Oper} {rest : List Oper} {op : Oper} {a : Act} {Q : Exit → Act → World → Prop} {x : Operand} (ho : op.op = .load t x) (hgd : op.guard = none) (hx : a.eval x = .pointer (some ⟨b, 0, none⟩)) (hu : P.underlying t = some d) (hd : d.isRow = true) (hi : (P.info? t).map (·.size) = some cs.size)
    (h : Blk w b e cs) (hk : wpList P ops Q rest (a.put op.dst (.agg cs)) w) : wpList P ops Q (op :: rest) a w := wpList_load_blk h hu hd hi hgd ho hx hk
theorem run_max4 {P : Program} (w : World) (ts : Array TypeId) (t : TypeId) (p q : Int) : (Builtin.max_ ts t #[.int .i64 p, .int .i64 (-p), .int .i64 q, .int .i64 (-q)]).run P w = .ok (.int .i64 (max (max p (-p)) (max q (-q)))) w := by
  simp [Builtin.max_, Builtin.max2]
  repeat' split
  all_goals omega
theorem wpList_store_blk2 {P : Program} {ops : Array Oper} {rest : List Oper} {o : Oper} {a : Act} {w : World} {Q : Exit → Act → World → Prop} {b : Nat} {t e : TypeId} {cs0 cs : Array Value} {x y : Operand} (ho : o.op = .store t x y) (hgd : o.guard = none) (hx : a.eval x = .pointer (some ⟨b, 0, none⟩)) (hy : a.eval y = .agg cs) (hi : (P.info? t).map (·.size) = some cs.size) (hsz : cs0.size = cs.size) (h1 : cs.all (·.oneCell') = true)
    (h : Blk w b e cs0) (hk : wpList P ops Q rest (a.put o.dst undef) (w.setRow b cs)) : wpList P ops Q (o :: rest) a w := wpList_store_blk h hi hsz h1 hgd ho hx hy hk
theorem clims_eq (b : CP) (x y : Int) (w : World) (h : y = x) : Calls Try.prog 39 #[.agg #[.int .i64 b.kp, .int .i64 b.ki, .int .i64 b.sh, .int .i64 b.lo, .int .i64 b.hi, .int .i64 b.rate, .int .i64 b.ga, .int .i64 b.la, .int .i64 b.de], .int .i64 y] w fun e w' => e = .returned (.tuple #[.int .i64 (b.lLo x), .int .i64 (b.lHi x), .int .i64 (b.lErr x)]) ∧ Below w.heap.size w w' := by subst h; exact clims b y w
theorem rclims_eq (b : CP) (x y : Int) (w : World) (h : y = x) : Calls Try.prog 40 #[.agg #[.int .i64 b.kp, .int .i64 b.ki, .int .i64 b.sh, .int .i64 b.lo, .int .i64 b.hi, .int .i64 b.rate, .int .i64 b.ga, .int .i64 b.la, .int .i64 b.de], .int .i64 y] w fun e w' => e = .returned (.tuple #[.int .i64 (b.lLo x), .int .i64 (b.lHi x), .int .i64 (b.lErr x)]) ∧ Below w.heap.size w w' := by subst h; exact rclims b y w
set_option linter.unusedSimpArgs false in
set_option maxRecDepth 100000 in
set_option maxHeartbeats 8000000 in
theorem wlimits_any (b m : CP) (cp : Int) (f t dB dM : Int) (w : World) : Calls Try.prog 20 #[.agg #[.int .i64 b.kp, .int .i64 b.ki, .int .i64 b.sh, .int .i64 b.lo, .int .i64 b.hi, .int .i64 b.rate, .int .i64 b.ga, .int .i64 b.la, .int .i64 b.de, .int .i64 m.kp, .int .i64 m.ki, .int .i64 m.sh, .int .i64 m.lo, .int .i64 m.hi, .int .i64 m.rate, .int .i64 m.ga, .int .i64 m.la, .int .i64 m.de, .int .i64 cp], .agg #[.int .i64 f, .int .i64 t], .agg #[.int .i64 dB, .int .i64 dM]] w (WLPost b m cp f t dB dM w) := by
  by_cases hc : chkW b m cp = 0
  rotate_left
  · have R : Hid (chkW b m cp = wlErr b m cp f t dB dM) := hid (by unfold wlErr; rw [if_pos hc])
    have RN := hid hc
    go_enter Try.func20, Try.ntmps20
    go_upto_region 1 with fail
    go_wp2_with (refine wpList_load_blk2 (t := 29) rfl rfl rfl Try.underlying29 rfl (by kernel_rfl) (Blk.alloc (Blk.alloc (Blk.alloc (Blk.alloc (Blk.at_new w rfl) _) _) _) _) ?_)
    refine (wcheck_any b m cp _).mono ?_
    rintro e w1 ⟨rfl, hb⟩
    have W1 : Hid (Blk w1 (w.heap.size) 29 #[.int .i64 b.kp, .int .i64 b.ki, .int .i64 b.sh, .int .i64 b.lo, .int .i64 b.hi, .int .i64 b.rate, .int .i64 b.ga, .int .i64 b.la, .int .i64 b.de, .int .i64 m.kp, .int .i64 m.ki, .int .i64 m.sh, .int .i64 m.lo, .int .i64 m.hi, .int .i64 m.rate, .int .i64 m.ga, .int .i64 m.la, .int .i64 m.de, .int .i64 cp]) := hid (Blk.below (Blk.alloc (Blk.alloc (Blk.alloc (Blk.alloc (Blk.at_new _ (by simp)) _) _) _) _) hb (by simp <;> omega))
    have P1 : Hid (Blk w1 (w.heap.size + 1) 54 #[.int .i64 f, .int .i64 t]) := hid (Blk.below (Blk.alloc (Blk.alloc (Blk.alloc (Blk.at_new _ (by simp)) _) _) _) hb (by simp <;> omega))
    have E1 : Hid (Blk w1 (w.heap.size + 1 + 1) 31 #[.int .i64 dB, .int .i64 dM]) := hid (Blk.below (Blk.alloc (Blk.alloc (Blk.at_new _ (by simp)) _) _) hb (by simp <;> omega))
    have X1 : Hid (Blk w1 (w.heap.size + 1 + 1 + 1) 54 #[.int .i64 0, .int .i64 0]) := hid (Blk.below (Blk.alloc (Blk.at_new _ (by simp)) _) hb (by simp <;> omega))
    have Y1 : Hid (Blk w1 (w.heap.size + 1 + 1 + 1 + 1) 54 #[.int .i64 0, .int .i64 0]) := hid (Blk.below (Blk.at_new _ (by simp)) hb (by simp <;> omega))
    have B1 : Hid (Below w.heap.size w w1) := hid (Below.trans ((((((Below.refl _ _).alloc (by simp <;> omega) _).alloc (by simp <;> omega) _).alloc (by simp <;> omega) _).alloc (by simp <;> omega) _).alloc (by simp <;> omega) _) (hb.mono (by simp <;> omega)))
    clear hb
    have cW_0 : ∀ (i : Nat), w1.cell? ⟨w.heap.size, i, none⟩ = (#[.int .i64 b.kp, .int .i64 b.ki, .int .i64 b.sh, .int .i64 b.lo, .int .i64 b.hi, .int .i64 b.rate, .int .i64 b.ga, .int .i64 b.la, .int .i64 b.de, .int .i64 m.kp, .int .i64 m.ki, .int .i64 m.sh, .int .i64 m.lo, .int .i64 m.hi, .int .i64 m.rate, .int .i64 m.ga, .int .i64 m.la, .int .i64 m.de, .int .i64 cp] : Array Value)[i]? := Blk.cell W1.out
    have cP_0 : ∀ (i : Nat), w1.cell? ⟨w.heap.size + 1, i, none⟩ = (#[.int .i64 f, .int .i64 t] : Array Value)[i]? := Blk.cell P1.out
    have cE_0 : ∀ (i : Nat), w1.cell? ⟨w.heap.size + 1 + 1, i, none⟩ = (#[.int .i64 dB, .int .i64 dM] : Array Value)[i]? := Blk.cell E1.out
    have cX_0 : ∀ (i : Nat), w1.cell? ⟨w.heap.size + 1 + 1 + 1, i, none⟩ = (#[.int .i64 0, .int .i64 0] : Array Value)[i]? := Blk.cell X1.out
    have cY_0 : ∀ (i : Nat), w1.cell? ⟨w.heap.size + 1 + 1 + 1 + 1, i, none⟩ = (#[.int .i64 0, .int .i64 0] : Array Value)[i]? := Blk.cell Y1.out
    have hz : (chkW b m cp != 0) = true := by simpa using hc
    have fX := X1.out.frozen
    have fY := Y1.out.frozen
    have gY := fun (u v : Value) => ((Y1.out.other (a := ⟨w.heap.size + 1 + 1 + 1, 0, none⟩) (by simp) u).other (a := ⟨w.heap.size + 1 + 1 + 1, 1, none⟩) (by simp) v).frozen
    have hY := fun (u v : Value) => ((Y1.out.other (a := ⟨w.heap.size + 1 + 1 + 1, 0, none⟩) (by simp) u).other (a := ⟨w.heap.size + 1 + 1 + 1, 1, none⟩) (by simp) v).cell
    go_wp2
    have KX := hid ((X1.out.set 0 (.int .i64 0)).set 1 (.int .i64 0))
    have KX2 := hid ((KX.out.other (a := ⟨w.heap.size + 1 + 1 + 1 + 1, 0, none⟩) (by simp) (.int .i64 0)).other (a := ⟨w.heap.size + 1 + 1 + 1 + 1, 1, none⟩) (by simp) (.int .i64 0))
    have KY := hid ((((Y1.out.other (a := ⟨w.heap.size + 1 + 1 + 1, 0, none⟩) (by simp) (.int .i64 0)).other (a := ⟨w.heap.size + 1 + 1 + 1, 1, none⟩) (by simp) (.int .i64 0)).set 0 (.int .i64 0)).set 1 (.int .i64 0))
    have k0 := KX2.out.cell 0
    have k1 := KX2.out.cell 1
    have k2 := KY.out.cell 0
    have k3 := KY.out.cell 1
    simp at k0 k1 k2 k3
    refine bodyPost_ret (v := .tuple #[.agg #[.int .i64 0, .int .i64 0], .agg #[.int .i64 0, .int .i64 0], .int .i64 (chkW b m cp)]) (by simp [results, Try.results20, go_sem, k0, k1, k2, k3]) rfl ?_
    exact wl_no R.out RN.out (by repeat (first | with_reducible exact B1.out | (with_reducible refine Below.setCell ?_ ?_ _; rotate_left; · (first | (simp; done) | (simp; omega) | omega))))
  have HC := hid hc
  obtain ⟨hb1, hm1, hcc⟩ := chkW_ok hc
  have HB := hid hb1
  have HM := hid hm1
  have HCC := hid hcc
  clear hb1 hm1 hcc
  by_cases hg : (absB f 16777216 && absB t 16777216 && Ct.inB dB 0 65536 && Ct.inB dM 0 65536) = true
  rotate_left
  · have R : Hid (1 = wlErr b m cp f t dB dM) := hid (by unfold wlErr; rw [if_neg (by omega), if_neg hg])
    clear hc
    rw [show absB f 16777216 = Ct.inB f (-16777216) 16777216 from rfl, show absB t 16777216 = Ct.inB t (-16777216) 16777216 from rfl] at hg
    have hq : Ct.inB f (-16777216) 16777216 = false ∨ (Ct.inB f (-16777216) 16777216 = true ∧ Ct.inB t (-16777216) 16777216 = false) ∨ (Ct.inB f (-16777216) 16777216 = true ∧ Ct.inB t (-16777216) 16777216 = true ∧ Ct.inB dB 0 65536 = false) ∨ (Ct.inB f (-16777216) 16777216 = true ∧ Ct.inB t (-16777216) 16777216 = true ∧ Ct.inB dB 0 65536 = true ∧ Ct.inB dM 0 65536 = false) := by
      cases h1 : Ct.inB f (-16777216) 16777216 <;> cases h2 : Ct.inB t (-16777216) 16777216 <;> cases h3 : Ct.inB dB 0 65536 <;> cases h4 : Ct.inB dM 0 65536 <;> simp_all
    clear hg
    rcases hq with hq | ⟨hq1, hq2⟩ | ⟨hq1, hq2, hq3⟩ | ⟨hq1, hq2, hq3, hq4⟩
    all_goals
      go_enter Try.func20, Try.ntmps20
      go_upto_region 1 with fail
      go_wp2_with (refine wpList_load_blk2 (t := 29) rfl rfl rfl Try.underlying29 rfl (by kernel_rfl) (Blk.alloc (Blk.alloc (Blk.alloc (Blk.alloc (Blk.at_new w rfl) _) _) _) _) ?_)
      refine (wcheck_any b m cp _).mono ?_
      rintro e w1 ⟨rfl, hb⟩
      have W1 : Hid (Blk w1 (w.heap.size) 29 #[.int .i64 b.kp, .int .i64 b.ki, .int .i64 b.sh, .int .i64 b.lo, .int .i64 b.hi, .int .i64 b.rate, .int .i64 b.ga, .int .i64 b.la, .int .i64 b.de, .int .i64 m.kp, .int .i64 m.ki, .int .i64 m.sh, .int .i64 m.lo, .int .i64 m.hi, .int .i64 m.rate, .int .i64 m.ga, .int .i64 m.la, .int .i64 m.de, .int .i64 cp]) := hid (Blk.below (Blk.alloc (Blk.alloc (Blk.alloc (Blk.alloc (Blk.at_new _ (by simp)) _) _) _) _) hb (by simp <;> omega))
      have P1 : Hid (Blk w1 (w.heap.size + 1) 54 #[.int .i64 f, .int .i64 t]) := hid (Blk.below (Blk.alloc (Blk.alloc (Blk.alloc (Blk.at_new _ (by simp)) _) _) _) hb (by simp <;> omega))
      have E1 : Hid (Blk w1 (w.heap.size + 1 + 1) 31 #[.int .i64 dB, .int .i64 dM]) := hid (Blk.below (Blk.alloc (Blk.alloc (Blk.at_new _ (by simp)) _) _) hb (by simp <;> omega))
      have X1 : Hid (Blk w1 (w.heap.size + 1 + 1 + 1) 54 #[.int .i64 0, .int .i64 0]) := hid (Blk.below (Blk.alloc (Blk.at_new _ (by simp)) _) hb (by simp <;> omega))
      have Y1 : Hid (Blk w1 (w.heap.size + 1 + 1 + 1 + 1) 54 #[.int .i64 0, .int .i64 0]) := hid (Blk.below (Blk.at_new _ (by simp)) hb (by simp <;> omega))
      have B1 : Hid (Below w.heap.size w w1) := hid (Below.trans ((((((Below.refl _ _).alloc (by simp <;> omega) _).alloc (by simp <;> omega) _).alloc (by simp <;> omega) _).alloc (by simp <;> omega) _).alloc (by simp <;> omega) _) (hb.mono (by simp <;> omega)))
      clear hb
      have cW_0 : ∀ (i : Nat), w1.cell? ⟨w.heap.size, i, none⟩ = (#[.int .i64 b.kp, .int .i64 b.ki, .int .i64 b.sh, .int .i64 b.lo, .int .i64 b.hi, .int .i64 b.rate, .int .i64 b.ga, .int .i64 b.la, .int .i64 b.de, .int .i64 m.kp, .int .i64 m.ki, .int .i64 m.sh, .int .i64 m.lo, .int .i64 m.hi, .int .i64 m.rate, .int .i64 m.ga, .int .i64 m.la, .int .i64 m.de, .int .i64 cp] : Array Value)[i]? := Blk.cell W1.out
      have cP_0 : ∀ (i : Nat), w1.cell? ⟨w.heap.size + 1, i, none⟩ = (#[.int .i64 f, .int .i64 t] : Array Value)[i]? := Blk.cell P1.out
      have cE_0 : ∀ (i : Nat), w1.cell? ⟨w.heap.size + 1 + 1, i, none⟩ = (#[.int .i64 dB, .int .i64 dM] : Array Value)[i]? := Blk.cell E1.out
      have cX_0 : ∀ (i : Nat), w1.cell? ⟨w.heap.size + 1 + 1 + 1, i, none⟩ = (#[.int .i64 0, .int .i64 0] : Array Value)[i]? := Blk.cell X1.out
      have cY_0 : ∀ (i : Nat), w1.cell? ⟨w.heap.size + 1 + 1 + 1 + 1, i, none⟩ = (#[.int .i64 0, .int .i64 0] : Array Value)[i]? := Blk.cell Y1.out
      rw [HC.out]
      have fX := X1.out.frozen
      have fY := Y1.out.frozen
      have gY := fun (u v : Value) => ((Y1.out.other (a := ⟨w.heap.size + 1 + 1 + 1, 0, none⟩) (by simp) u).other (a := ⟨w.heap.size + 1 + 1 + 1, 1, none⟩) (by simp) v).frozen
      have hY := fun (u v : Value) => ((Y1.out.other (a := ⟨w.heap.size + 1 + 1 + 1, 0, none⟩) (by simp) u).other (a := ⟨w.heap.size + 1 + 1 + 1, 1, none⟩) (by simp) v).cell
      go_wp2_with (go_at_call 26; refine (win_any _ _ _ _).mono ?_; rintro e v9 ⟨rfl, rfl⟩)
      have KX := hid ((X1.out.set 0 (.int .i64 0)).set 1 (.int .i64 0))
      have KX2 := hid ((KX.out.other (a := ⟨w.heap.size + 1 + 1 + 1 + 1, 0, none⟩) (by simp) (.int .i64 0)).other (a := ⟨w.heap.size + 1 + 1 + 1 + 1, 1, none⟩) (by simp) (.int .i64 0))
      have KY := hid ((((Y1.out.other (a := ⟨w.heap.size + 1 + 1 + 1, 0, none⟩) (by simp) (.int .i64 0)).other (a := ⟨w.heap.size + 1 + 1 + 1, 1, none⟩) (by simp) (.int .i64 0)).set 0 (.int .i64 0)).set 1 (.int .i64 0))
      have k0 := KX2.out.cell 0
      have k1 := KX2.out.cell 1
      have k2 := KY.out.cell 0
      have k3 := KY.out.cell 1
      simp at k0 k1 k2 k3
      refine bodyPost_ret (v := .tuple #[.agg #[.int .i64 0, .int .i64 0], .agg #[.int .i64 0, .int .i64 0], .int .i64 1]) (by simp [results, Try.results20, go_sem, k0, k1, k2, k3]) rfl ?_
      exact wl_no R.out (by decide) (by repeat (first | with_reducible exact B1.out | (with_reducible refine Below.setCell ?_ ?_ _; rotate_left; · (first | (simp; done) | (simp; omega) | omega))))
  have HG := hid hg
  simp only [Bool.and_eq_true] at hg
  obtain ⟨⟨⟨g1, g2⟩, g3⟩, g4⟩ := hg
  have fb := absB_true g1
  have tb := absB_true g2
  obtain ⟨db1, db2⟩ := Ct.inB_true g3
  obtain ⟨dm1, dm2⟩ := Ct.inB_true g4
  replace g1 : Ct.inB f (-16777216) 16777216 = true := g1
  replace g2 : Ct.inB t (-16777216) 16777216 = true := g2
  by_cases hft : t < f
  · have R : Hid (9 = wlErr b m cp f t dB dM) := hid (by unfold wlErr; rw [if_neg (by omega), if_pos HG.out, if_pos hft])
    clear hc
    go_enter Try.func20, Try.ntmps20
    go_upto_region 1 with fail
    go_wp2_with (refine wpList_load_blk2 (t := 29) rfl rfl rfl Try.underlying29 rfl (by kernel_rfl) (Blk.alloc (Blk.alloc (Blk.alloc (Blk.alloc (Blk.at_new w rfl) _) _) _) _) ?_)
    refine (wcheck_any b m cp _).mono ?_
    rintro e w1 ⟨rfl, hb⟩
    have W1 : Hid (Blk w1 (w.heap.size) 29 #[.int .i64 b.kp, .int .i64 b.ki, .int .i64 b.sh, .int .i64 b.lo, .int .i64 b.hi, .int .i64 b.rate, .int .i64 b.ga, .int .i64 b.la, .int .i64 b.de, .int .i64 m.kp, .int .i64 m.ki, .int .i64 m.sh, .int .i64 m.lo, .int .i64 m.hi, .int .i64 m.rate, .int .i64 m.ga, .int .i64 m.la, .int .i64 m.de, .int .i64 cp]) := hid (Blk.below (Blk.alloc (Blk.alloc (Blk.alloc (Blk.alloc (Blk.at_new _ (by simp)) _) _) _) _) hb (by simp <;> omega))
    have P1 : Hid (Blk w1 (w.heap.size + 1) 54 #[.int .i64 f, .int .i64 t]) := hid (Blk.below (Blk.alloc (Blk.alloc (Blk.alloc (Blk.at_new _ (by simp)) _) _) _) hb (by simp <;> omega))
    have E1 : Hid (Blk w1 (w.heap.size + 1 + 1) 31 #[.int .i64 dB, .int .i64 dM]) := hid (Blk.below (Blk.alloc (Blk.alloc (Blk.at_new _ (by simp)) _) _) hb (by simp <;> omega))
    have X1 : Hid (Blk w1 (w.heap.size + 1 + 1 + 1) 54 #[.int .i64 0, .int .i64 0]) := hid (Blk.below (Blk.alloc (Blk.at_new _ (by simp)) _) hb (by simp <;> omega))
    have Y1 : Hid (Blk w1 (w.heap.size + 1 + 1 + 1 + 1) 54 #[.int .i64 0, .int .i64 0]) := hid (Blk.below (Blk.at_new _ (by simp)) hb (by simp <;> omega))
    have B1 : Hid (Below w.heap.size w w1) := hid (Below.trans ((((((Below.refl _ _).alloc (by simp <;> omega) _).alloc (by simp <;> omega) _).alloc (by simp <;> omega) _).alloc (by simp <;> omega) _).alloc (by simp <;> omega) _) (hb.mono (by simp <;> omega)))
    clear hb
    have cW_0 : ∀ (i : Nat), w1.cell? ⟨w.heap.size, i, none⟩ = (#[.int .i64 b.kp, .int .i64 b.ki, .int .i64 b.sh, .int .i64 b.lo, .int .i64 b.hi, .int .i64 b.rate, .int .i64 b.ga, .int .i64 b.la, .int .i64 b.de, .int .i64 m.kp, .int .i64 m.ki, .int .i64 m.sh, .int .i64 m.lo, .int .i64 m.hi, .int .i64 m.rate, .int .i64 m.ga, .int .i64 m.la, .int .i64 m.de, .int .i64 cp] : Array Value)[i]? := Blk.cell W1.out
    have cP_0 : ∀ (i : Nat), w1.cell? ⟨w.heap.size + 1, i, none⟩ = (#[.int .i64 f, .int .i64 t] : Array Value)[i]? := Blk.cell P1.out
    have cE_0 : ∀ (i : Nat), w1.cell? ⟨w.heap.size + 1 + 1, i, none⟩ = (#[.int .i64 dB, .int .i64 dM] : Array Value)[i]? := Blk.cell E1.out
    have cX_0 : ∀ (i : Nat), w1.cell? ⟨w.heap.size + 1 + 1 + 1, i, none⟩ = (#[.int .i64 0, .int .i64 0] : Array Value)[i]? := Blk.cell X1.out
    have cY_0 : ∀ (i : Nat), w1.cell? ⟨w.heap.size + 1 + 1 + 1 + 1, i, none⟩ = (#[.int .i64 0, .int .i64 0] : Array Value)[i]? := Blk.cell Y1.out
    rw [HC.out]
    have fX := X1.out.frozen
    have fY := Y1.out.frozen
    have gY := fun (u v : Value) => ((Y1.out.other (a := ⟨w.heap.size + 1 + 1 + 1, 0, none⟩) (by simp) u).other (a := ⟨w.heap.size + 1 + 1 + 1, 1, none⟩) (by simp) v).frozen
    have hY := fun (u v : Value) => ((Y1.out.other (a := ⟨w.heap.size + 1 + 1 + 1, 0, none⟩) (by simp) u).other (a := ⟨w.heap.size + 1 + 1 + 1, 1, none⟩) (by simp) v).cell
    go_wp2_with (go_at_call 26; refine (win_any _ _ _ _).mono ?_; rintro e v9 ⟨rfl, rfl⟩)
    have KX := hid ((X1.out.set 0 (.int .i64 0)).set 1 (.int .i64 0))
    have KX2 := hid ((KX.out.other (a := ⟨w.heap.size + 1 + 1 + 1 + 1, 0, none⟩) (by simp) (.int .i64 0)).other (a := ⟨w.heap.size + 1 + 1 + 1 + 1, 1, none⟩) (by simp) (.int .i64 0))
    have KY := hid ((((Y1.out.other (a := ⟨w.heap.size + 1 + 1 + 1, 0, none⟩) (by simp) (.int .i64 0)).other (a := ⟨w.heap.size + 1 + 1 + 1, 1, none⟩) (by simp) (.int .i64 0)).set 0 (.int .i64 0)).set 1 (.int .i64 0))
    have k0 := KX2.out.cell 0
    have k1 := KX2.out.cell 1
    have k2 := KY.out.cell 0
    have k3 := KY.out.cell 1
    simp at k0 k1 k2 k3
    refine bodyPost_ret (v := .tuple #[.agg #[.int .i64 0, .int .i64 0], .agg #[.int .i64 0, .int .i64 0], .int .i64 9]) (by simp [results, Try.results20, go_sem, k0, k1, k2, k3]) rfl ?_
    exact wl_no R.out (by decide) (by repeat (first | with_reducible exact B1.out | (with_reducible refine Below.setCell ?_ ?_ _; rotate_left; · (first | (simp; done) | (simp; omega) | omega))))
  have R : Hid (wlErr b m cp f t dB dM = 0) := hid (by unfold wlErr; rw [if_neg (by omega), if_pos HG.out, if_neg hft])
  have LE := hid (CP.l_ok HB.out ⟨db1, db2⟩).1
  have bd := CP.l_bd HB.out ⟨db1, db2⟩
  obtain ⟨⟨bd1, bd2⟩, bd3, bd4⟩ := bd
  have DI := hid (wlD_in (b := b) (cp := cp) (f := f) (t := t) (dB := dB) dm1)
  have ME := hid (CP.l_ok HM.out DI.out).1
  clear hc
  obtain ⟨L, hL⟩ : ∃ L, b.lLo dB = L := ⟨_, rfl⟩
  obtain ⟨H, hH⟩ : ∃ H, b.lHi dB = H := ⟨_, rfl⟩
  rw [hL] at bd1 bd2
  rw [hH] at bd3 bd4
  have c1 := coup_bd HCC.out (x := H - f) (X := 134217728) (by omega) (by omega)
  have c2 := coup_bd HCC.out (x := L - t) (X := 134217728) (by omega) (by omega)
  obtain ⟨_, _, c13, c14⟩ := c1
  obtain ⟨_, _, c23, c24⟩ := c2
  obtain ⟨p, hp⟩ : ∃ p, coup cp (H - f) = p := ⟨_, rfl⟩
  obtain ⟨q, hq⟩ : ∃ q, coup cp (L - t) = q := ⟨_, rfl⟩
  rw [hp] at c13 c14
  rw [hq] at c23 c24
  have WD : Hid (wlD b cp f t dB dM = min 65536 (dM + max (max p (-p)) (max q (-q)))) := hid (by unfold wlD wlC; rw [hL, hH, hp, hq])
  have HL := hid hL
  have HH := hid hH
  have HP := hid hp
  have HQ := hid hq
  clear hL hH hp hq
  go_enter Try.func20, Try.ntmps20
  go_upto_region 1 with fail
  go_wp2_with (refine wpList_load_blk2 (t := 29) rfl rfl rfl Try.underlying29 rfl (by kernel_rfl) (Blk.alloc (Blk.alloc (Blk.alloc (Blk.alloc (Blk.at_new w rfl) _) _) _) _) ?_)
  refine (wcheck_any b m cp _).mono ?_
  rintro e w1 ⟨rfl, hb⟩
  have W1 : Hid (Blk w1 (w.heap.size) 29 #[.int .i64 b.kp, .int .i64 b.ki, .int .i64 b.sh, .int .i64 b.lo, .int .i64 b.hi, .int .i64 b.rate, .int .i64 b.ga, .int .i64 b.la, .int .i64 b.de, .int .i64 m.kp, .int .i64 m.ki, .int .i64 m.sh, .int .i64 m.lo, .int .i64 m.hi, .int .i64 m.rate, .int .i64 m.ga, .int .i64 m.la, .int .i64 m.de, .int .i64 cp]) := hid (Blk.below (Blk.alloc (Blk.alloc (Blk.alloc (Blk.alloc (Blk.at_new _ (by simp)) _) _) _) _) hb (by simp <;> omega))
  have P1 : Hid (Blk w1 (w.heap.size + 1) 54 #[.int .i64 f, .int .i64 t]) := hid (Blk.below (Blk.alloc (Blk.alloc (Blk.alloc (Blk.at_new _ (by simp)) _) _) _) hb (by simp <;> omega))
  have E1 : Hid (Blk w1 (w.heap.size + 1 + 1) 31 #[.int .i64 dB, .int .i64 dM]) := hid (Blk.below (Blk.alloc (Blk.alloc (Blk.at_new _ (by simp)) _) _) hb (by simp <;> omega))
  have X1 : Hid (Blk w1 (w.heap.size + 1 + 1 + 1) 54 #[.int .i64 0, .int .i64 0]) := hid (Blk.below (Blk.alloc (Blk.at_new _ (by simp)) _) hb (by simp <;> omega))
  have Y1 : Hid (Blk w1 (w.heap.size + 1 + 1 + 1 + 1) 54 #[.int .i64 0, .int .i64 0]) := hid (Blk.below (Blk.at_new _ (by simp)) hb (by simp <;> omega))
  have B1 : Hid (Below w.heap.size w w1) := hid (Below.trans ((((((Below.refl _ _).alloc (by simp <;> omega) _).alloc (by simp <;> omega) _).alloc (by simp <;> omega) _).alloc (by simp <;> omega) _).alloc (by simp <;> omega) _) (hb.mono (by simp <;> omega)))
  clear hb
  have cW_0 : ∀ (i : Nat), w1.cell? ⟨w.heap.size, i, none⟩ = (#[.int .i64 b.kp, .int .i64 b.ki, .int .i64 b.sh, .int .i64 b.lo, .int .i64 b.hi, .int .i64 b.rate, .int .i64 b.ga, .int .i64 b.la, .int .i64 b.de, .int .i64 m.kp, .int .i64 m.ki, .int .i64 m.sh, .int .i64 m.lo, .int .i64 m.hi, .int .i64 m.rate, .int .i64 m.ga, .int .i64 m.la, .int .i64 m.de, .int .i64 cp] : Array Value)[i]? := Blk.cell W1.out
  have cP_0 : ∀ (i : Nat), w1.cell? ⟨w.heap.size + 1, i, none⟩ = (#[.int .i64 f, .int .i64 t] : Array Value)[i]? := Blk.cell P1.out
  have cE_0 : ∀ (i : Nat), w1.cell? ⟨w.heap.size + 1 + 1, i, none⟩ = (#[.int .i64 dB, .int .i64 dM] : Array Value)[i]? := Blk.cell E1.out
  have cX_0 : ∀ (i : Nat), w1.cell? ⟨w.heap.size + 1 + 1 + 1, i, none⟩ = (#[.int .i64 0, .int .i64 0] : Array Value)[i]? := Blk.cell X1.out
  have cY_0 : ∀ (i : Nat), w1.cell? ⟨w.heap.size + 1 + 1 + 1 + 1, i, none⟩ = (#[.int .i64 0, .int .i64 0] : Array Value)[i]? := Blk.cell Y1.out
  rw [HC.out]
  go_wp2_with (go_at_call 26; refine (win_any _ _ _ _).mono ?_; rintro e v9 ⟨rfl, rfl⟩)
  refine (clims b dB _).mono ?_
  rintro e w2 ⟨rfl, hb⟩
  have W2 := hid (Blk.below W1.out hb (Blk.lt W1.out))
  have P2 := hid (Blk.below P1.out hb (Blk.lt P1.out))
  have E2 := hid (Blk.below E1.out hb (Blk.lt E1.out))
  have X2 := hid (Blk.below X1.out hb (Blk.lt X1.out))
  have Y2 := hid (Blk.below Y1.out hb (Blk.lt Y1.out))
  have B2 : Hid (Below w.heap.size w w2) := hid (Below.trans B1.out (hb.mono (Nat.le_trans B1.out.size (by simp <;> omega))))
  clear hb
  clear cW_0 cP_0 cE_0 cX_0 cY_0
  have cW_0 : ∀ (i : Nat), w2.cell? ⟨w.heap.size, i, none⟩ = (#[.int .i64 b.kp, .int .i64 b.ki, .int .i64 b.sh, .int .i64 b.lo, .int .i64 b.hi, .int .i64 b.rate, .int .i64 b.ga, .int .i64 b.la, .int .i64 b.de, .int .i64 m.kp, .int .i64 m.ki, .int .i64 m.sh, .int .i64 m.lo, .int .i64 m.hi, .int .i64 m.rate, .int .i64 m.ga, .int .i64 m.la, .int .i64 m.de, .int .i64 cp] : Array Value)[i]? := Blk.cell W2.out
  have cP_0 : ∀ (i : Nat), w2.cell? ⟨w.heap.size + 1, i, none⟩ = (#[.int .i64 f, .int .i64 t] : Array Value)[i]? := Blk.cell P2.out
  have cE_0 : ∀ (i : Nat), w2.cell? ⟨w.heap.size + 1 + 1, i, none⟩ = (#[.int .i64 dB, .int .i64 dM] : Array Value)[i]? := Blk.cell E2.out
  have cX_0 : ∀ (i : Nat), w2.cell? ⟨w.heap.size + 1 + 1 + 1, i, none⟩ = (#[.int .i64 0, .int .i64 0] : Array Value)[i]? := Blk.cell X2.out
  have cY_0 : ∀ (i : Nat), w2.cell? ⟨w.heap.size + 1 + 1 + 1 + 1, i, none⟩ = (#[.int .i64 0, .int .i64 0] : Array Value)[i]? := Blk.cell Y2.out
  rw [LE.out]
  rw [HL.out, HH.out]
  go_upto_region 12 with fail
  clear cW_0 cP_0 cE_0 cX_0 cY_0
  refine wp_region_hand (fun w' => Blk w' w.heap.size 29 #[.int .i64 b.kp, .int .i64 b.ki, .int .i64 b.sh, .int .i64 b.lo, .int .i64 b.hi, .int .i64 b.rate, .int .i64 b.ga, .int .i64 b.la, .int .i64 b.de, .int .i64 m.kp, .int .i64 m.ki, .int .i64 m.sh, .int .i64 m.lo, .int .i64 m.hi, .int .i64 m.rate, .int .i64 m.ga, .int .i64 m.la, .int .i64 m.de, .int .i64 cp] ∧ Blk w' (w.heap.size + 1) 54 #[.int .i64 f, .int .i64 t]) (by kernel_rfl) ?_
  simp only [List.length_cons, List.length_nil, Nat.zero_add, Nat.reduceAdd]
  have hS : Blk w2.drew w.heap.size 29 #[.int .i64 b.kp, .int .i64 b.ki, .int .i64 b.sh, .int .i64 b.lo, .int .i64 b.hi, .int .i64 b.rate, .int .i64 b.ga, .int .i64 b.la, .int .i64 b.de, .int .i64 m.kp, .int .i64 m.ki, .int .i64 m.sh, .int .i64 m.lo, .int .i64 m.hi, .int .i64 m.rate, .int .i64 m.ga, .int .i64 m.la, .int .i64 m.de, .int .i64 cp] ∧ Blk w2.drew (w.heap.size + 1) 54 #[.int .i64 f, .int .i64 t] := ⟨W2.out, P2.out⟩
  refine take_at (i := 0) (v := .agg #[.int .i64 b.kp, .int .i64 b.ki, .int .i64 b.sh, .int .i64 b.lo, .int .i64 b.hi, .int .i64 b.rate, .int .i64 b.ga, .int .i64 b.la, .int .i64 b.de, .int .i64 m.kp, .int .i64 m.ki, .int .i64 m.sh, .int .i64 m.lo, .int .i64 m.hi, .int .i64 m.rate, .int .i64 m.ga, .int .i64 m.la, .int .i64 m.de, .int .i64 cp]) rfl rfl (by kernel_rfl) (by kernel_rfl) (by kernel_rfl) (fun _ _ _ h => h) (Or.inl ⟨by rfl, fun wi hSw => exec_loads (p := .pointer (some ⟨w.heap.size, 0, none⟩)) rfl rfl (load_blk hSw.1 Try.underlying29 rfl (by kernel_rfl))⟩) hS ?_
  try simp only [List.setIfInBounds_toArray, List.set_cons_zero, List.set_cons_succ]
  refine take_at (i := 1) (v := ?_) rfl rfl (by kernel_rfl) (by kernel_rfl) (by kernel_rfl) (fun _ _ _ h => h) (Or.inl ⟨by rfl, ?_⟩) hS ?_
  rotate_left
  · intro w hSw; (try dsimp only at hSw); go_simp; try with_reducible rfl
  try simp only [List.setIfInBounds_toArray, List.set_cons_zero, List.set_cons_succ]
  refine take_at (i := 2) (v := ?_) rfl rfl (by kernel_rfl) (by kernel_rfl) (by kernel_rfl) (fun _ _ _ h => h) (Or.inl ⟨by rfl, ?_⟩) hS ?_
  rotate_left
  · intro w hSw; (try dsimp only at hSw); go_simp; try with_reducible rfl
  try simp only [List.setIfInBounds_toArray, List.set_cons_zero, List.set_cons_succ]
  refine take_at (i := 3) (v := ?_) rfl rfl (by kernel_rfl) (by kernel_rfl) (by kernel_rfl) (fun _ _ _ h => h) (Or.inl ⟨by rfl, ?_⟩) hS ?_
  rotate_left
  · intro wi hSw; have ci0 := hSw.2.cell; go_simp; try with_reducible rfl
  try simp only [List.setIfInBounds_toArray, List.set_cons_zero, List.set_cons_succ]
  refine take_at (i := 5) (v := .agg #[.int .i64 b.kp, .int .i64 b.ki, .int .i64 b.sh, .int .i64 b.lo, .int .i64 b.hi, .int .i64 b.rate, .int .i64 b.ga, .int .i64 b.la, .int .i64 b.de, .int .i64 m.kp, .int .i64 m.ki, .int .i64 m.sh, .int .i64 m.lo, .int .i64 m.hi, .int .i64 m.rate, .int .i64 m.ga, .int .i64 m.la, .int .i64 m.de, .int .i64 cp]) rfl rfl (by kernel_rfl) (by kernel_rfl) (by kernel_rfl) (fun _ _ _ h => h) (Or.inl ⟨by rfl, fun wi hSw => exec_loads (p := .pointer (some ⟨w.heap.size, 0, none⟩)) rfl rfl (load_blk hSw.1 Try.underlying29 rfl (by kernel_rfl))⟩) hS ?_
  try simp only [List.setIfInBounds_toArray, List.set_cons_zero, List.set_cons_succ]
  refine take_at (i := 6) (v := ?_) rfl rfl (by kernel_rfl) (by kernel_rfl) (by kernel_rfl) (fun _ _ _ h => h) (Or.inl ⟨by rfl, ?_⟩) hS ?_
  rotate_left
  · intro w hSw; (try dsimp only at hSw); go_simp; try with_reducible rfl
  try simp only [List.setIfInBounds_toArray, List.set_cons_zero, List.set_cons_succ]
  refine take_at (i := 7) (v := ?_) rfl rfl (by kernel_rfl) (by kernel_rfl) (by kernel_rfl) (fun _ _ _ h => h) (Or.inl ⟨by rfl, ?_⟩) hS ?_
  rotate_left
  · intro w hSw; (try dsimp only at hSw); go_simp; try with_reducible rfl
  try simp only [List.setIfInBounds_toArray, List.set_cons_zero, List.set_cons_succ]
  refine take_at (i := 8) (v := ?_) rfl rfl (by kernel_rfl) (by kernel_rfl) (by kernel_rfl) (fun _ _ _ h => h) (Or.inl ⟨by rfl, ?_⟩) hS ?_
  rotate_left
  · intro wi hSw; have ci0 := hSw.2.cell; go_simp; try with_reducible rfl
  try simp only [List.setIfInBounds_toArray, List.set_cons_zero, List.set_cons_succ]
  refine wpAnyH_ready (rs := [4]) (by kernel_rfl) (by simp) ?_
  refine AllReadyH.cons rfl (fun K hK => ?_) AllReadyH.nil
  go_simp
  (go_at_call 36; refine (coup_any b m cp H f _ HCC.out (by omega)).mono ?_; rintro e w3 ⟨rfl, hb⟩; rw [HP.out]; have HB3 := hid (show Below w2.heap.size w2 w3 from by first | exact hb | exact (Below.drew (Below.refl _ _)).trans hb); have W3 := hid (Blk.below W2.out HB3.out W2.out.lt); have P3 := hid (Blk.below P2.out HB3.out P2.out.lt); have E3 := hid (Blk.below E2.out HB3.out E2.out.lt); have X3 := hid (Blk.below X2.out HB3.out X2.out.lt); have Y3 := hid (Blk.below Y2.out HB3.out Y2.out.lt); have B3 := hid (B2.out.trans (HB3.out.mono B2.out.size)); clear hb hS)
  refine hK.out _ _ ⟨W3.out, P3.out⟩ (fun hS => ?_)
  clear hK K
  try simp only [Act.put, List.setIfInBounds_toArray, List.set_cons_zero, List.set_cons_succ]
  refine wpAnyH_ready (rs := [9]) (by kernel_rfl) (by simp) ?_
  refine AllReadyH.cons rfl (fun K hK => ?_) AllReadyH.nil
  go_simp
  (go_at_call 36; refine (coup_any b m cp L t _ HCC.out (by omega)).mono ?_; rintro e w4 ⟨rfl, hb⟩; rw [HQ.out]; have HB4 := hid (show Below w3.heap.size w3 w4 from by first | exact hb | exact (Below.drew (Below.refl _ _)).trans hb); have W4 := hid (Blk.below W3.out HB4.out W3.out.lt); have P4 := hid (Blk.below P3.out HB4.out P3.out.lt); have E4 := hid (Blk.below E3.out HB4.out E3.out.lt); have X4 := hid (Blk.below X3.out HB4.out X3.out.lt); have Y4 := hid (Blk.below Y3.out HB4.out Y3.out.lt); have B4 := hid (B3.out.trans (HB4.out.mono B3.out.size)); clear hb hS)
  refine hK.out _ _ ⟨W4.out, P4.out⟩ (fun hS => ?_)
  clear hK K
  try simp only [Act.put, List.setIfInBounds_toArray, List.set_cons_zero, List.set_cons_succ]
  refine take_at (i := 10) (v := ?_) rfl rfl (by kernel_rfl) (by kernel_rfl) (by kernel_rfl) (fun _ _ _ h => h) (Or.inl ⟨by rfl, ?_⟩) hS ?_
  rotate_left
  · intro w hSw; (try dsimp only at hSw); go_simp; try with_reducible rfl
  try simp only [List.setIfInBounds_toArray, List.set_cons_zero, List.set_cons_succ]
  refine take_at (i := 11) (v := ?_) rfl rfl (by kernel_rfl) (by kernel_rfl) (by kernel_rfl) (fun _ _ _ h => h) (Or.inl ⟨by rfl, ?_⟩) hS ?_
  rotate_left
  · intro w hSw; (try dsimp only at hSw); go_simp; try with_reducible rfl
  try simp only [List.setIfInBounds_toArray, List.set_cons_zero, List.set_cons_succ]
  refine wpAnyH_done (by kernel_rfl) ?_ _
  simp only [Sure, Exit.then]
  clear hS
  have cW := W4.out.cell
  have cP := P4.out.cell
  have cE := E4.out.cell
  have cX := X4.out.cell
  have cY := Y4.out.cell
  have mx := fun (W : World) (ts : Array TypeId) (ty : TypeId) => run_max4 (P := Try.prog) W ts ty p q
  go_wp2_with fail
  all_goals
    refine (clims_eq m (wlD b cp f t dB dM) _ _ ?_).mono ?_
    · rw [WD.out]
      try omega
    rintro e w5 ⟨rfl, hb⟩
    have X5 := hid (Blk.below X4.out (show Below w4.heap.size w4 w5 from by first | exact hb | exact (Below.drew (Below.refl _ _)).trans hb) X4.out.lt)
    have Y5 := hid (Blk.below Y4.out (show Below w4.heap.size w4 w5 from by first | exact hb | exact (Below.drew (Below.refl _ _)).trans hb) Y4.out.lt)
    have B5 := hid (B4.out.trans ((show Below w4.heap.size w4 w5 from by first | exact hb | exact (Below.drew (Below.refl _ _)).trans hb).mono B4.out.size))
    clear hb cW cP cE cX cY mx
    rw [ME.out]
    go_upto_region 17 with fail
    go_wp2_with (first
      | (refine wpList_store_blk2 (b := w.heap.size + 1 + 1 + 1) (t := 54) (e := 54) (cs0 := #[.int .i64 0, .int .i64 0]) (cs := #[.int .i64 L, .int .i64 H]) rfl rfl rfl rfl (by kernel_rfl) rfl (by simp [Value.oneCell']) X5.out ?_)
      | (refine wpList_store_blk2 (b := w.heap.size + 1 + 1 + 1 + 1) (t := 54) (e := 54) (cs0 := #[.int .i64 0, .int .i64 0]) (cs := #[.int .i64 (m.lLo (wlD b cp f t dB dM)), .int .i64 (m.lHi (wlD b cp f t dB dM))]) rfl rfl rfl rfl (by kernel_rfl) rfl (by simp [Value.oneCell']) (Blk.rowOther Y5.out (by simp) _) ?_))
    have KX := hid (Blk.rowOther (g := w.heap.size + 1 + 1 + 1 + 1) (Blk.row X5.out #[.int .i64 L, .int .i64 H]) (by simp) #[.int .i64 (m.lLo (wlD b cp f t dB dM)), .int .i64 (m.lHi (wlD b cp f t dB dM))])
    have KY := hid (Blk.row (Blk.rowOther (g := w.heap.size + 1 + 1 + 1) Y5.out (by simp) #[.int .i64 L, .int .i64 H]) #[.int .i64 (m.lLo (wlD b cp f t dB dM)), .int .i64 (m.lHi (wlD b cp f t dB dM))])
    have k0 := KX.out.cell 0
    have k1 := KX.out.cell 1
    have k2 := KY.out.cell 0
    have k3 := KY.out.cell 1
    simp at k0 k1 k2 k3
    refine bodyPost_ret (v := .tuple #[.agg #[.int .i64 L, .int .i64 H], .agg #[.int .i64 (m.lLo (wlD b cp f t dB dM)), .int .i64 (m.lHi (wlD b cp f t dB dM))], .int .i64 0]) (by simp [results, Try.results20, go_sem, k0, k1, k2, k3]) rfl ?_
    exact wl_ok R.out HL.out.symm HH.out.symm rfl rfl (Below.row (Below.row B5.out (by omega) _) (by omega) _)
set_option linter.unusedSimpArgs false in
set_option maxRecDepth 100000 in
set_option maxHeartbeats 8000000 in
theorem rwlimits_any (b m : CP) (cp : Int) (f t dB dM : Int) (w : World) : Calls Try.prog 21 #[.agg #[.int .i64 b.kp, .int .i64 b.ki, .int .i64 b.sh, .int .i64 b.lo, .int .i64 b.hi, .int .i64 b.rate, .int .i64 b.ga, .int .i64 b.la, .int .i64 b.de, .int .i64 m.kp, .int .i64 m.ki, .int .i64 m.sh, .int .i64 m.lo, .int .i64 m.hi, .int .i64 m.rate, .int .i64 m.ga, .int .i64 m.la, .int .i64 m.de, .int .i64 cp], .agg #[.int .i64 f, .int .i64 t], .agg #[.int .i64 dB, .int .i64 dM]] w (WLPost b m cp f t dB dM w) := by
  by_cases hc : chkW b m cp = 0
  rotate_left
  · have R : Hid (chkW b m cp = wlErr b m cp f t dB dM) := hid (by unfold wlErr; rw [if_pos hc])
    have RN := hid hc
    go_enter Try.func21, Try.ntmps21
    go_upto_region 1 with fail
    go_wp2_with (refine wpList_load_blk2 (t := 29) rfl rfl rfl Try.underlying29 rfl (by kernel_rfl) (Blk.alloc (Blk.alloc (Blk.alloc (Blk.alloc (Blk.at_new w rfl) _) _) _) _) ?_)
    refine (rwcheck_any b m cp _).mono ?_
    rintro e w1 ⟨rfl, hb⟩
    have W1 : Hid (Blk w1 (w.heap.size) 29 #[.int .i64 b.kp, .int .i64 b.ki, .int .i64 b.sh, .int .i64 b.lo, .int .i64 b.hi, .int .i64 b.rate, .int .i64 b.ga, .int .i64 b.la, .int .i64 b.de, .int .i64 m.kp, .int .i64 m.ki, .int .i64 m.sh, .int .i64 m.lo, .int .i64 m.hi, .int .i64 m.rate, .int .i64 m.ga, .int .i64 m.la, .int .i64 m.de, .int .i64 cp]) := hid (Blk.below (Blk.alloc (Blk.alloc (Blk.alloc (Blk.alloc (Blk.at_new _ (by simp)) _) _) _) _) hb (by simp <;> omega))
    have P1 : Hid (Blk w1 (w.heap.size + 1) 54 #[.int .i64 f, .int .i64 t]) := hid (Blk.below (Blk.alloc (Blk.alloc (Blk.alloc (Blk.at_new _ (by simp)) _) _) _) hb (by simp <;> omega))
    have E1 : Hid (Blk w1 (w.heap.size + 1 + 1) 31 #[.int .i64 dB, .int .i64 dM]) := hid (Blk.below (Blk.alloc (Blk.alloc (Blk.at_new _ (by simp)) _) _) hb (by simp <;> omega))
    have X1 : Hid (Blk w1 (w.heap.size + 1 + 1 + 1) 54 #[.int .i64 0, .int .i64 0]) := hid (Blk.below (Blk.alloc (Blk.at_new _ (by simp)) _) hb (by simp <;> omega))
    have Y1 : Hid (Blk w1 (w.heap.size + 1 + 1 + 1 + 1) 54 #[.int .i64 0, .int .i64 0]) := hid (Blk.below (Blk.at_new _ (by simp)) hb (by simp <;> omega))
    have B1 : Hid (Below w.heap.size w w1) := hid (Below.trans ((((((Below.refl _ _).alloc (by simp <;> omega) _).alloc (by simp <;> omega) _).alloc (by simp <;> omega) _).alloc (by simp <;> omega) _).alloc (by simp <;> omega) _) (hb.mono (by simp <;> omega)))
    clear hb
    have cW_0 : ∀ (i : Nat), w1.cell? ⟨w.heap.size, i, none⟩ = (#[.int .i64 b.kp, .int .i64 b.ki, .int .i64 b.sh, .int .i64 b.lo, .int .i64 b.hi, .int .i64 b.rate, .int .i64 b.ga, .int .i64 b.la, .int .i64 b.de, .int .i64 m.kp, .int .i64 m.ki, .int .i64 m.sh, .int .i64 m.lo, .int .i64 m.hi, .int .i64 m.rate, .int .i64 m.ga, .int .i64 m.la, .int .i64 m.de, .int .i64 cp] : Array Value)[i]? := Blk.cell W1.out
    have cP_0 : ∀ (i : Nat), w1.cell? ⟨w.heap.size + 1, i, none⟩ = (#[.int .i64 f, .int .i64 t] : Array Value)[i]? := Blk.cell P1.out
    have cE_0 : ∀ (i : Nat), w1.cell? ⟨w.heap.size + 1 + 1, i, none⟩ = (#[.int .i64 dB, .int .i64 dM] : Array Value)[i]? := Blk.cell E1.out
    have cX_0 : ∀ (i : Nat), w1.cell? ⟨w.heap.size + 1 + 1 + 1, i, none⟩ = (#[.int .i64 0, .int .i64 0] : Array Value)[i]? := Blk.cell X1.out
    have cY_0 : ∀ (i : Nat), w1.cell? ⟨w.heap.size + 1 + 1 + 1 + 1, i, none⟩ = (#[.int .i64 0, .int .i64 0] : Array Value)[i]? := Blk.cell Y1.out
    have hz : (chkW b m cp != 0) = true := by simpa using hc
    have fX := X1.out.frozen
    have fY := Y1.out.frozen
    have gY := fun (u v : Value) => ((Y1.out.other (a := ⟨w.heap.size + 1 + 1 + 1, 0, none⟩) (by simp) u).other (a := ⟨w.heap.size + 1 + 1 + 1, 1, none⟩) (by simp) v).frozen
    have hY := fun (u v : Value) => ((Y1.out.other (a := ⟨w.heap.size + 1 + 1 + 1, 0, none⟩) (by simp) u).other (a := ⟨w.heap.size + 1 + 1 + 1, 1, none⟩) (by simp) v).cell
    go_wp2
    have KX := hid ((X1.out.set 0 (.int .i64 0)).set 1 (.int .i64 0))
    have KX2 := hid ((KX.out.other (a := ⟨w.heap.size + 1 + 1 + 1 + 1, 0, none⟩) (by simp) (.int .i64 0)).other (a := ⟨w.heap.size + 1 + 1 + 1 + 1, 1, none⟩) (by simp) (.int .i64 0))
    have KY := hid ((((Y1.out.other (a := ⟨w.heap.size + 1 + 1 + 1, 0, none⟩) (by simp) (.int .i64 0)).other (a := ⟨w.heap.size + 1 + 1 + 1, 1, none⟩) (by simp) (.int .i64 0)).set 0 (.int .i64 0)).set 1 (.int .i64 0))
    have k0 := KX2.out.cell 0
    have k1 := KX2.out.cell 1
    have k2 := KY.out.cell 0
    have k3 := KY.out.cell 1
    simp at k0 k1 k2 k3
    refine bodyPost_ret (v := .tuple #[.agg #[.int .i64 0, .int .i64 0], .agg #[.int .i64 0, .int .i64 0], .int .i64 (chkW b m cp)]) (by simp [results, Try.results21, go_sem, k0, k1, k2, k3]) rfl ?_
    exact wl_no R.out RN.out (by repeat (first | with_reducible exact B1.out | (with_reducible refine Below.setCell ?_ ?_ _; rotate_left; · (first | (simp; done) | (simp; omega) | omega))))
  have HC := hid hc
  obtain ⟨hb1, hm1, hcc⟩ := chkW_ok hc
  have HB := hid hb1
  have HM := hid hm1
  have HCC := hid hcc
  clear hb1 hm1 hcc
  by_cases hg : (absB f 16777216 && absB t 16777216 && Ct.inB dB 0 65536 && Ct.inB dM 0 65536) = true
  rotate_left
  · have R : Hid (1 = wlErr b m cp f t dB dM) := hid (by unfold wlErr; rw [if_neg (by omega), if_neg hg])
    clear hc
    rw [show absB f 16777216 = Ct.inB f (-16777216) 16777216 from rfl, show absB t 16777216 = Ct.inB t (-16777216) 16777216 from rfl] at hg
    have hq : Ct.inB f (-16777216) 16777216 = false ∨ (Ct.inB f (-16777216) 16777216 = true ∧ Ct.inB t (-16777216) 16777216 = false) ∨ (Ct.inB f (-16777216) 16777216 = true ∧ Ct.inB t (-16777216) 16777216 = true ∧ Ct.inB dB 0 65536 = false) ∨ (Ct.inB f (-16777216) 16777216 = true ∧ Ct.inB t (-16777216) 16777216 = true ∧ Ct.inB dB 0 65536 = true ∧ Ct.inB dM 0 65536 = false) := by
      cases h1 : Ct.inB f (-16777216) 16777216 <;> cases h2 : Ct.inB t (-16777216) 16777216 <;> cases h3 : Ct.inB dB 0 65536 <;> cases h4 : Ct.inB dM 0 65536 <;> simp_all
    clear hg
    rcases hq with hq | ⟨hq1, hq2⟩ | ⟨hq1, hq2, hq3⟩ | ⟨hq1, hq2, hq3, hq4⟩
    · replace hq : absB f 16777216 = false := hq
      go_enter Try.func21, Try.ntmps21
      go_upto_region 1 with fail
      go_wp2_with (refine wpList_load_blk2 (t := 29) rfl rfl rfl Try.underlying29 rfl (by kernel_rfl) (Blk.alloc (Blk.alloc (Blk.alloc (Blk.alloc (Blk.at_new w rfl) _) _) _) _) ?_)
      refine (rwcheck_any b m cp _).mono ?_
      rintro e w1 ⟨rfl, hb⟩
      have W1 : Hid (Blk w1 (w.heap.size) 29 #[.int .i64 b.kp, .int .i64 b.ki, .int .i64 b.sh, .int .i64 b.lo, .int .i64 b.hi, .int .i64 b.rate, .int .i64 b.ga, .int .i64 b.la, .int .i64 b.de, .int .i64 m.kp, .int .i64 m.ki, .int .i64 m.sh, .int .i64 m.lo, .int .i64 m.hi, .int .i64 m.rate, .int .i64 m.ga, .int .i64 m.la, .int .i64 m.de, .int .i64 cp]) := hid (Blk.below (Blk.alloc (Blk.alloc (Blk.alloc (Blk.alloc (Blk.at_new _ (by simp)) _) _) _) _) hb (by simp <;> omega))
      have P1 : Hid (Blk w1 (w.heap.size + 1) 54 #[.int .i64 f, .int .i64 t]) := hid (Blk.below (Blk.alloc (Blk.alloc (Blk.alloc (Blk.at_new _ (by simp)) _) _) _) hb (by simp <;> omega))
      have E1 : Hid (Blk w1 (w.heap.size + 1 + 1) 31 #[.int .i64 dB, .int .i64 dM]) := hid (Blk.below (Blk.alloc (Blk.alloc (Blk.at_new _ (by simp)) _) _) hb (by simp <;> omega))
      have X1 : Hid (Blk w1 (w.heap.size + 1 + 1 + 1) 54 #[.int .i64 0, .int .i64 0]) := hid (Blk.below (Blk.alloc (Blk.at_new _ (by simp)) _) hb (by simp <;> omega))
      have Y1 : Hid (Blk w1 (w.heap.size + 1 + 1 + 1 + 1) 54 #[.int .i64 0, .int .i64 0]) := hid (Blk.below (Blk.at_new _ (by simp)) hb (by simp <;> omega))
      have B1 : Hid (Below w.heap.size w w1) := hid (Below.trans ((((((Below.refl _ _).alloc (by simp <;> omega) _).alloc (by simp <;> omega) _).alloc (by simp <;> omega) _).alloc (by simp <;> omega) _).alloc (by simp <;> omega) _) (hb.mono (by simp <;> omega)))
      clear hb
      have cW_0 : ∀ (i : Nat), w1.cell? ⟨w.heap.size, i, none⟩ = (#[.int .i64 b.kp, .int .i64 b.ki, .int .i64 b.sh, .int .i64 b.lo, .int .i64 b.hi, .int .i64 b.rate, .int .i64 b.ga, .int .i64 b.la, .int .i64 b.de, .int .i64 m.kp, .int .i64 m.ki, .int .i64 m.sh, .int .i64 m.lo, .int .i64 m.hi, .int .i64 m.rate, .int .i64 m.ga, .int .i64 m.la, .int .i64 m.de, .int .i64 cp] : Array Value)[i]? := Blk.cell W1.out
      have cP_0 : ∀ (i : Nat), w1.cell? ⟨w.heap.size + 1, i, none⟩ = (#[.int .i64 f, .int .i64 t] : Array Value)[i]? := Blk.cell P1.out
      have cE_0 : ∀ (i : Nat), w1.cell? ⟨w.heap.size + 1 + 1, i, none⟩ = (#[.int .i64 dB, .int .i64 dM] : Array Value)[i]? := Blk.cell E1.out
      have cX_0 : ∀ (i : Nat), w1.cell? ⟨w.heap.size + 1 + 1 + 1, i, none⟩ = (#[.int .i64 0, .int .i64 0] : Array Value)[i]? := Blk.cell X1.out
      have cY_0 : ∀ (i : Nat), w1.cell? ⟨w.heap.size + 1 + 1 + 1 + 1, i, none⟩ = (#[.int .i64 0, .int .i64 0] : Array Value)[i]? := Blk.cell Y1.out
      rw [HC.out]
      have fX := X1.out.frozen
      have fY := Y1.out.frozen
      have gY := fun (u v : Value) => ((Y1.out.other (a := ⟨w.heap.size + 1 + 1 + 1, 0, none⟩) (by simp) u).other (a := ⟨w.heap.size + 1 + 1 + 1, 1, none⟩) (by simp) v).frozen
      have hY := fun (u v : Value) => ((Y1.out.other (a := ⟨w.heap.size + 1 + 1 + 1, 0, none⟩) (by simp) u).other (a := ⟨w.heap.size + 1 + 1 + 1, 1, none⟩) (by simp) v).cell
      go_wp2_with (go_at_call 28; refine (rwsignal_any _ _).mono ?_; rintro e v9 ⟨rfl, rfl⟩)
      have KX := hid ((X1.out.set 0 (.int .i64 0)).set 1 (.int .i64 0))
      have KX2 := hid ((KX.out.other (a := ⟨w.heap.size + 1 + 1 + 1 + 1, 0, none⟩) (by simp) (.int .i64 0)).other (a := ⟨w.heap.size + 1 + 1 + 1 + 1, 1, none⟩) (by simp) (.int .i64 0))
      have KY := hid ((((Y1.out.other (a := ⟨w.heap.size + 1 + 1 + 1, 0, none⟩) (by simp) (.int .i64 0)).other (a := ⟨w.heap.size + 1 + 1 + 1, 1, none⟩) (by simp) (.int .i64 0)).set 0 (.int .i64 0)).set 1 (.int .i64 0))
      have k0 := KX2.out.cell 0
      have k1 := KX2.out.cell 1
      have k2 := KY.out.cell 0
      have k3 := KY.out.cell 1
      simp at k0 k1 k2 k3
      refine bodyPost_ret (v := .tuple #[.agg #[.int .i64 0, .int .i64 0], .agg #[.int .i64 0, .int .i64 0], .int .i64 1]) (by simp [results, Try.results21, go_sem, k0, k1, k2, k3]) rfl ?_
      exact wl_no R.out (by decide) (by repeat (first | with_reducible exact B1.out | (with_reducible refine Below.setCell ?_ ?_ _; rotate_left; · (first | (simp; done) | (simp; omega) | omega))))
    · replace hq1 : absB f 16777216 = true := hq1
      replace hq2 : absB t 16777216 = false := hq2
      go_enter Try.func21, Try.ntmps21
      go_upto_region 1 with fail
      go_wp2_with (refine wpList_load_blk2 (t := 29) rfl rfl rfl Try.underlying29 rfl (by kernel_rfl) (Blk.alloc (Blk.alloc (Blk.alloc (Blk.alloc (Blk.at_new w rfl) _) _) _) _) ?_)
      refine (rwcheck_any b m cp _).mono ?_
      rintro e w1 ⟨rfl, hb⟩
      have W1 : Hid (Blk w1 (w.heap.size) 29 #[.int .i64 b.kp, .int .i64 b.ki, .int .i64 b.sh, .int .i64 b.lo, .int .i64 b.hi, .int .i64 b.rate, .int .i64 b.ga, .int .i64 b.la, .int .i64 b.de, .int .i64 m.kp, .int .i64 m.ki, .int .i64 m.sh, .int .i64 m.lo, .int .i64 m.hi, .int .i64 m.rate, .int .i64 m.ga, .int .i64 m.la, .int .i64 m.de, .int .i64 cp]) := hid (Blk.below (Blk.alloc (Blk.alloc (Blk.alloc (Blk.alloc (Blk.at_new _ (by simp)) _) _) _) _) hb (by simp <;> omega))
      have P1 : Hid (Blk w1 (w.heap.size + 1) 54 #[.int .i64 f, .int .i64 t]) := hid (Blk.below (Blk.alloc (Blk.alloc (Blk.alloc (Blk.at_new _ (by simp)) _) _) _) hb (by simp <;> omega))
      have E1 : Hid (Blk w1 (w.heap.size + 1 + 1) 31 #[.int .i64 dB, .int .i64 dM]) := hid (Blk.below (Blk.alloc (Blk.alloc (Blk.at_new _ (by simp)) _) _) hb (by simp <;> omega))
      have X1 : Hid (Blk w1 (w.heap.size + 1 + 1 + 1) 54 #[.int .i64 0, .int .i64 0]) := hid (Blk.below (Blk.alloc (Blk.at_new _ (by simp)) _) hb (by simp <;> omega))
      have Y1 : Hid (Blk w1 (w.heap.size + 1 + 1 + 1 + 1) 54 #[.int .i64 0, .int .i64 0]) := hid (Blk.below (Blk.at_new _ (by simp)) hb (by simp <;> omega))
      have B1 : Hid (Below w.heap.size w w1) := hid (Below.trans ((((((Below.refl _ _).alloc (by simp <;> omega) _).alloc (by simp <;> omega) _).alloc (by simp <;> omega) _).alloc (by simp <;> omega) _).alloc (by simp <;> omega) _) (hb.mono (by simp <;> omega)))
      clear hb
      have cW_0 : ∀ (i : Nat), w1.cell? ⟨w.heap.size, i, none⟩ = (#[.int .i64 b.kp, .int .i64 b.ki, .int .i64 b.sh, .int .i64 b.lo, .int .i64 b.hi, .int .i64 b.rate, .int .i64 b.ga, .int .i64 b.la, .int .i64 b.de, .int .i64 m.kp, .int .i64 m.ki, .int .i64 m.sh, .int .i64 m.lo, .int .i64 m.hi, .int .i64 m.rate, .int .i64 m.ga, .int .i64 m.la, .int .i64 m.de, .int .i64 cp] : Array Value)[i]? := Blk.cell W1.out
      have cP_0 : ∀ (i : Nat), w1.cell? ⟨w.heap.size + 1, i, none⟩ = (#[.int .i64 f, .int .i64 t] : Array Value)[i]? := Blk.cell P1.out
      have cE_0 : ∀ (i : Nat), w1.cell? ⟨w.heap.size + 1 + 1, i, none⟩ = (#[.int .i64 dB, .int .i64 dM] : Array Value)[i]? := Blk.cell E1.out
      have cX_0 : ∀ (i : Nat), w1.cell? ⟨w.heap.size + 1 + 1 + 1, i, none⟩ = (#[.int .i64 0, .int .i64 0] : Array Value)[i]? := Blk.cell X1.out
      have cY_0 : ∀ (i : Nat), w1.cell? ⟨w.heap.size + 1 + 1 + 1 + 1, i, none⟩ = (#[.int .i64 0, .int .i64 0] : Array Value)[i]? := Blk.cell Y1.out
      rw [HC.out]
      have fX := X1.out.frozen
      have fY := Y1.out.frozen
      have gY := fun (u v : Value) => ((Y1.out.other (a := ⟨w.heap.size + 1 + 1 + 1, 0, none⟩) (by simp) u).other (a := ⟨w.heap.size + 1 + 1 + 1, 1, none⟩) (by simp) v).frozen
      have hY := fun (u v : Value) => ((Y1.out.other (a := ⟨w.heap.size + 1 + 1 + 1, 0, none⟩) (by simp) u).other (a := ⟨w.heap.size + 1 + 1 + 1, 1, none⟩) (by simp) v).cell
      go_wp2_with (go_at_call 28; refine (rwsignal_any _ _).mono ?_; rintro e v9 ⟨rfl, rfl⟩)
      have KX := hid ((X1.out.set 0 (.int .i64 0)).set 1 (.int .i64 0))
      have KX2 := hid ((KX.out.other (a := ⟨w.heap.size + 1 + 1 + 1 + 1, 0, none⟩) (by simp) (.int .i64 0)).other (a := ⟨w.heap.size + 1 + 1 + 1 + 1, 1, none⟩) (by simp) (.int .i64 0))
      have KY := hid ((((Y1.out.other (a := ⟨w.heap.size + 1 + 1 + 1, 0, none⟩) (by simp) (.int .i64 0)).other (a := ⟨w.heap.size + 1 + 1 + 1, 1, none⟩) (by simp) (.int .i64 0)).set 0 (.int .i64 0)).set 1 (.int .i64 0))
      have k0 := KX2.out.cell 0
      have k1 := KX2.out.cell 1
      have k2 := KY.out.cell 0
      have k3 := KY.out.cell 1
      simp at k0 k1 k2 k3
      refine bodyPost_ret (v := .tuple #[.agg #[.int .i64 0, .int .i64 0], .agg #[.int .i64 0, .int .i64 0], .int .i64 1]) (by simp [results, Try.results21, go_sem, k0, k1, k2, k3]) rfl ?_
      exact wl_no R.out (by decide) (by repeat (first | with_reducible exact B1.out | (with_reducible refine Below.setCell ?_ ?_ _; rotate_left; · (first | (simp; done) | (simp; omega) | omega))))
    · replace hq1 : absB f 16777216 = true := hq1
      replace hq2 : absB t 16777216 = true := hq2
      rcases Ct.inB_false hq3 with hx | hx
      all_goals
        clear hq3
        go_enter Try.func21, Try.ntmps21
        go_upto_region 1 with fail
        go_wp2_with (refine wpList_load_blk2 (t := 29) rfl rfl rfl Try.underlying29 rfl (by kernel_rfl) (Blk.alloc (Blk.alloc (Blk.alloc (Blk.alloc (Blk.at_new w rfl) _) _) _) _) ?_)
        refine (rwcheck_any b m cp _).mono ?_
        rintro e w1 ⟨rfl, hb⟩
        have W1 : Hid (Blk w1 (w.heap.size) 29 #[.int .i64 b.kp, .int .i64 b.ki, .int .i64 b.sh, .int .i64 b.lo, .int .i64 b.hi, .int .i64 b.rate, .int .i64 b.ga, .int .i64 b.la, .int .i64 b.de, .int .i64 m.kp, .int .i64 m.ki, .int .i64 m.sh, .int .i64 m.lo, .int .i64 m.hi, .int .i64 m.rate, .int .i64 m.ga, .int .i64 m.la, .int .i64 m.de, .int .i64 cp]) := hid (Blk.below (Blk.alloc (Blk.alloc (Blk.alloc (Blk.alloc (Blk.at_new _ (by simp)) _) _) _) _) hb (by simp <;> omega))
        have P1 : Hid (Blk w1 (w.heap.size + 1) 54 #[.int .i64 f, .int .i64 t]) := hid (Blk.below (Blk.alloc (Blk.alloc (Blk.alloc (Blk.at_new _ (by simp)) _) _) _) hb (by simp <;> omega))
        have E1 : Hid (Blk w1 (w.heap.size + 1 + 1) 31 #[.int .i64 dB, .int .i64 dM]) := hid (Blk.below (Blk.alloc (Blk.alloc (Blk.at_new _ (by simp)) _) _) hb (by simp <;> omega))
        have X1 : Hid (Blk w1 (w.heap.size + 1 + 1 + 1) 54 #[.int .i64 0, .int .i64 0]) := hid (Blk.below (Blk.alloc (Blk.at_new _ (by simp)) _) hb (by simp <;> omega))
        have Y1 : Hid (Blk w1 (w.heap.size + 1 + 1 + 1 + 1) 54 #[.int .i64 0, .int .i64 0]) := hid (Blk.below (Blk.at_new _ (by simp)) hb (by simp <;> omega))
        have B1 : Hid (Below w.heap.size w w1) := hid (Below.trans ((((((Below.refl _ _).alloc (by simp <;> omega) _).alloc (by simp <;> omega) _).alloc (by simp <;> omega) _).alloc (by simp <;> omega) _).alloc (by simp <;> omega) _) (hb.mono (by simp <;> omega)))
        clear hb
        have cW_0 : ∀ (i : Nat), w1.cell? ⟨w.heap.size, i, none⟩ = (#[.int .i64 b.kp, .int .i64 b.ki, .int .i64 b.sh, .int .i64 b.lo, .int .i64 b.hi, .int .i64 b.rate, .int .i64 b.ga, .int .i64 b.la, .int .i64 b.de, .int .i64 m.kp, .int .i64 m.ki, .int .i64 m.sh, .int .i64 m.lo, .int .i64 m.hi, .int .i64 m.rate, .int .i64 m.ga, .int .i64 m.la, .int .i64 m.de, .int .i64 cp] : Array Value)[i]? := Blk.cell W1.out
        have cP_0 : ∀ (i : Nat), w1.cell? ⟨w.heap.size + 1, i, none⟩ = (#[.int .i64 f, .int .i64 t] : Array Value)[i]? := Blk.cell P1.out
        have cE_0 : ∀ (i : Nat), w1.cell? ⟨w.heap.size + 1 + 1, i, none⟩ = (#[.int .i64 dB, .int .i64 dM] : Array Value)[i]? := Blk.cell E1.out
        have cX_0 : ∀ (i : Nat), w1.cell? ⟨w.heap.size + 1 + 1 + 1, i, none⟩ = (#[.int .i64 0, .int .i64 0] : Array Value)[i]? := Blk.cell X1.out
        have cY_0 : ∀ (i : Nat), w1.cell? ⟨w.heap.size + 1 + 1 + 1 + 1, i, none⟩ = (#[.int .i64 0, .int .i64 0] : Array Value)[i]? := Blk.cell Y1.out
        rw [HC.out]
        have fX := X1.out.frozen
        have fY := Y1.out.frozen
        have gY := fun (u v : Value) => ((Y1.out.other (a := ⟨w.heap.size + 1 + 1 + 1, 0, none⟩) (by simp) u).other (a := ⟨w.heap.size + 1 + 1 + 1, 1, none⟩) (by simp) v).frozen
        have hY := fun (u v : Value) => ((Y1.out.other (a := ⟨w.heap.size + 1 + 1 + 1, 0, none⟩) (by simp) u).other (a := ⟨w.heap.size + 1 + 1 + 1, 1, none⟩) (by simp) v).cell
        go_wp2_with (go_at_call 28; refine (rwsignal_any _ _).mono ?_; rintro e v9 ⟨rfl, rfl⟩)
        have KX := hid ((X1.out.set 0 (.int .i64 0)).set 1 (.int .i64 0))
        have KX2 := hid ((KX.out.other (a := ⟨w.heap.size + 1 + 1 + 1 + 1, 0, none⟩) (by simp) (.int .i64 0)).other (a := ⟨w.heap.size + 1 + 1 + 1 + 1, 1, none⟩) (by simp) (.int .i64 0))
        have KY := hid ((((Y1.out.other (a := ⟨w.heap.size + 1 + 1 + 1, 0, none⟩) (by simp) (.int .i64 0)).other (a := ⟨w.heap.size + 1 + 1 + 1, 1, none⟩) (by simp) (.int .i64 0)).set 0 (.int .i64 0)).set 1 (.int .i64 0))
        have k0 := KX2.out.cell 0
        have k1 := KX2.out.cell 1
        have k2 := KY.out.cell 0
        have k3 := KY.out.cell 1
        simp at k0 k1 k2 k3
        refine bodyPost_ret (v := .tuple #[.agg #[.int .i64 0, .int .i64 0], .agg #[.int .i64 0, .int .i64 0], .int .i64 1]) (by simp [results, Try.results21, go_sem, k0, k1, k2, k3]) rfl ?_
        exact wl_no R.out (by decide) (by repeat (first | with_reducible exact B1.out | (with_reducible refine Below.setCell ?_ ?_ _; rotate_left; · (first | (simp; done) | (simp; omega) | omega))))
    · replace hq1 : absB f 16777216 = true := hq1
      replace hq2 : absB t 16777216 = true := hq2
      obtain ⟨hy1, hy2⟩ := Ct.inB_true hq3
      rcases Ct.inB_false hq4 with hx | hx
      all_goals
        clear hq3 hq4
        go_enter Try.func21, Try.ntmps21
        go_upto_region 1 with fail
        go_wp2_with (refine wpList_load_blk2 (t := 29) rfl rfl rfl Try.underlying29 rfl (by kernel_rfl) (Blk.alloc (Blk.alloc (Blk.alloc (Blk.alloc (Blk.at_new w rfl) _) _) _) _) ?_)
        refine (rwcheck_any b m cp _).mono ?_
        rintro e w1 ⟨rfl, hb⟩
        have W1 : Hid (Blk w1 (w.heap.size) 29 #[.int .i64 b.kp, .int .i64 b.ki, .int .i64 b.sh, .int .i64 b.lo, .int .i64 b.hi, .int .i64 b.rate, .int .i64 b.ga, .int .i64 b.la, .int .i64 b.de, .int .i64 m.kp, .int .i64 m.ki, .int .i64 m.sh, .int .i64 m.lo, .int .i64 m.hi, .int .i64 m.rate, .int .i64 m.ga, .int .i64 m.la, .int .i64 m.de, .int .i64 cp]) := hid (Blk.below (Blk.alloc (Blk.alloc (Blk.alloc (Blk.alloc (Blk.at_new _ (by simp)) _) _) _) _) hb (by simp <;> omega))
        have P1 : Hid (Blk w1 (w.heap.size + 1) 54 #[.int .i64 f, .int .i64 t]) := hid (Blk.below (Blk.alloc (Blk.alloc (Blk.alloc (Blk.at_new _ (by simp)) _) _) _) hb (by simp <;> omega))
        have E1 : Hid (Blk w1 (w.heap.size + 1 + 1) 31 #[.int .i64 dB, .int .i64 dM]) := hid (Blk.below (Blk.alloc (Blk.alloc (Blk.at_new _ (by simp)) _) _) hb (by simp <;> omega))
        have X1 : Hid (Blk w1 (w.heap.size + 1 + 1 + 1) 54 #[.int .i64 0, .int .i64 0]) := hid (Blk.below (Blk.alloc (Blk.at_new _ (by simp)) _) hb (by simp <;> omega))
        have Y1 : Hid (Blk w1 (w.heap.size + 1 + 1 + 1 + 1) 54 #[.int .i64 0, .int .i64 0]) := hid (Blk.below (Blk.at_new _ (by simp)) hb (by simp <;> omega))
        have B1 : Hid (Below w.heap.size w w1) := hid (Below.trans ((((((Below.refl _ _).alloc (by simp <;> omega) _).alloc (by simp <;> omega) _).alloc (by simp <;> omega) _).alloc (by simp <;> omega) _).alloc (by simp <;> omega) _) (hb.mono (by simp <;> omega)))
        clear hb
        have cW_0 : ∀ (i : Nat), w1.cell? ⟨w.heap.size, i, none⟩ = (#[.int .i64 b.kp, .int .i64 b.ki, .int .i64 b.sh, .int .i64 b.lo, .int .i64 b.hi, .int .i64 b.rate, .int .i64 b.ga, .int .i64 b.la, .int .i64 b.de, .int .i64 m.kp, .int .i64 m.ki, .int .i64 m.sh, .int .i64 m.lo, .int .i64 m.hi, .int .i64 m.rate, .int .i64 m.ga, .int .i64 m.la, .int .i64 m.de, .int .i64 cp] : Array Value)[i]? := Blk.cell W1.out
        have cP_0 : ∀ (i : Nat), w1.cell? ⟨w.heap.size + 1, i, none⟩ = (#[.int .i64 f, .int .i64 t] : Array Value)[i]? := Blk.cell P1.out
        have cE_0 : ∀ (i : Nat), w1.cell? ⟨w.heap.size + 1 + 1, i, none⟩ = (#[.int .i64 dB, .int .i64 dM] : Array Value)[i]? := Blk.cell E1.out
        have cX_0 : ∀ (i : Nat), w1.cell? ⟨w.heap.size + 1 + 1 + 1, i, none⟩ = (#[.int .i64 0, .int .i64 0] : Array Value)[i]? := Blk.cell X1.out
        have cY_0 : ∀ (i : Nat), w1.cell? ⟨w.heap.size + 1 + 1 + 1 + 1, i, none⟩ = (#[.int .i64 0, .int .i64 0] : Array Value)[i]? := Blk.cell Y1.out
        rw [HC.out]
        have fX := X1.out.frozen
        have fY := Y1.out.frozen
        have gY := fun (u v : Value) => ((Y1.out.other (a := ⟨w.heap.size + 1 + 1 + 1, 0, none⟩) (by simp) u).other (a := ⟨w.heap.size + 1 + 1 + 1, 1, none⟩) (by simp) v).frozen
        have hY := fun (u v : Value) => ((Y1.out.other (a := ⟨w.heap.size + 1 + 1 + 1, 0, none⟩) (by simp) u).other (a := ⟨w.heap.size + 1 + 1 + 1, 1, none⟩) (by simp) v).cell
        go_wp2_with (go_at_call 28; refine (rwsignal_any _ _).mono ?_; rintro e v9 ⟨rfl, rfl⟩)
        have KX := hid ((X1.out.set 0 (.int .i64 0)).set 1 (.int .i64 0))
        have KX2 := hid ((KX.out.other (a := ⟨w.heap.size + 1 + 1 + 1 + 1, 0, none⟩) (by simp) (.int .i64 0)).other (a := ⟨w.heap.size + 1 + 1 + 1 + 1, 1, none⟩) (by simp) (.int .i64 0))
        have KY := hid ((((Y1.out.other (a := ⟨w.heap.size + 1 + 1 + 1, 0, none⟩) (by simp) (.int .i64 0)).other (a := ⟨w.heap.size + 1 + 1 + 1, 1, none⟩) (by simp) (.int .i64 0)).set 0 (.int .i64 0)).set 1 (.int .i64 0))
        have k0 := KX2.out.cell 0
        have k1 := KX2.out.cell 1
        have k2 := KY.out.cell 0
        have k3 := KY.out.cell 1
        simp at k0 k1 k2 k3
        refine bodyPost_ret (v := .tuple #[.agg #[.int .i64 0, .int .i64 0], .agg #[.int .i64 0, .int .i64 0], .int .i64 1]) (by simp [results, Try.results21, go_sem, k0, k1, k2, k3]) rfl ?_
        exact wl_no R.out (by decide) (by repeat (first | with_reducible exact B1.out | (with_reducible refine Below.setCell ?_ ?_ _; rotate_left; · (first | (simp; done) | (simp; omega) | omega))))
  have HG := hid hg
  simp only [Bool.and_eq_true] at hg
  obtain ⟨⟨⟨g1, g2⟩, g3⟩, g4⟩ := hg
  have fb := absB_true g1
  have tb := absB_true g2
  obtain ⟨db1, db2⟩ := Ct.inB_true g3
  obtain ⟨dm1, dm2⟩ := Ct.inB_true g4
  clear g3 g4
  by_cases hft : t < f
  · have R : Hid (9 = wlErr b m cp f t dB dM) := hid (by unfold wlErr; rw [if_neg (by omega), if_pos HG.out, if_pos hft])
    clear hc
    go_enter Try.func21, Try.ntmps21
    go_upto_region 1 with fail
    go_wp2_with (refine wpList_load_blk2 (t := 29) rfl rfl rfl Try.underlying29 rfl (by kernel_rfl) (Blk.alloc (Blk.alloc (Blk.alloc (Blk.alloc (Blk.at_new w rfl) _) _) _) _) ?_)
    refine (rwcheck_any b m cp _).mono ?_
    rintro e w1 ⟨rfl, hb⟩
    have W1 : Hid (Blk w1 (w.heap.size) 29 #[.int .i64 b.kp, .int .i64 b.ki, .int .i64 b.sh, .int .i64 b.lo, .int .i64 b.hi, .int .i64 b.rate, .int .i64 b.ga, .int .i64 b.la, .int .i64 b.de, .int .i64 m.kp, .int .i64 m.ki, .int .i64 m.sh, .int .i64 m.lo, .int .i64 m.hi, .int .i64 m.rate, .int .i64 m.ga, .int .i64 m.la, .int .i64 m.de, .int .i64 cp]) := hid (Blk.below (Blk.alloc (Blk.alloc (Blk.alloc (Blk.alloc (Blk.at_new _ (by simp)) _) _) _) _) hb (by simp <;> omega))
    have P1 : Hid (Blk w1 (w.heap.size + 1) 54 #[.int .i64 f, .int .i64 t]) := hid (Blk.below (Blk.alloc (Blk.alloc (Blk.alloc (Blk.at_new _ (by simp)) _) _) _) hb (by simp <;> omega))
    have E1 : Hid (Blk w1 (w.heap.size + 1 + 1) 31 #[.int .i64 dB, .int .i64 dM]) := hid (Blk.below (Blk.alloc (Blk.alloc (Blk.at_new _ (by simp)) _) _) hb (by simp <;> omega))
    have X1 : Hid (Blk w1 (w.heap.size + 1 + 1 + 1) 54 #[.int .i64 0, .int .i64 0]) := hid (Blk.below (Blk.alloc (Blk.at_new _ (by simp)) _) hb (by simp <;> omega))
    have Y1 : Hid (Blk w1 (w.heap.size + 1 + 1 + 1 + 1) 54 #[.int .i64 0, .int .i64 0]) := hid (Blk.below (Blk.at_new _ (by simp)) hb (by simp <;> omega))
    have B1 : Hid (Below w.heap.size w w1) := hid (Below.trans ((((((Below.refl _ _).alloc (by simp <;> omega) _).alloc (by simp <;> omega) _).alloc (by simp <;> omega) _).alloc (by simp <;> omega) _).alloc (by simp <;> omega) _) (hb.mono (by simp <;> omega)))
    clear hb
    have cW_0 : ∀ (i : Nat), w1.cell? ⟨w.heap.size, i, none⟩ = (#[.int .i64 b.kp, .int .i64 b.ki, .int .i64 b.sh, .int .i64 b.lo, .int .i64 b.hi, .int .i64 b.rate, .int .i64 b.ga, .int .i64 b.la, .int .i64 b.de, .int .i64 m.kp, .int .i64 m.ki, .int .i64 m.sh, .int .i64 m.lo, .int .i64 m.hi, .int .i64 m.rate, .int .i64 m.ga, .int .i64 m.la, .int .i64 m.de, .int .i64 cp] : Array Value)[i]? := Blk.cell W1.out
    have cP_0 : ∀ (i : Nat), w1.cell? ⟨w.heap.size + 1, i, none⟩ = (#[.int .i64 f, .int .i64 t] : Array Value)[i]? := Blk.cell P1.out
    have cE_0 : ∀ (i : Nat), w1.cell? ⟨w.heap.size + 1 + 1, i, none⟩ = (#[.int .i64 dB, .int .i64 dM] : Array Value)[i]? := Blk.cell E1.out
    have cX_0 : ∀ (i : Nat), w1.cell? ⟨w.heap.size + 1 + 1 + 1, i, none⟩ = (#[.int .i64 0, .int .i64 0] : Array Value)[i]? := Blk.cell X1.out
    have cY_0 : ∀ (i : Nat), w1.cell? ⟨w.heap.size + 1 + 1 + 1 + 1, i, none⟩ = (#[.int .i64 0, .int .i64 0] : Array Value)[i]? := Blk.cell Y1.out
    rw [HC.out]
    have fX := X1.out.frozen
    have fY := Y1.out.frozen
    have gY := fun (u v : Value) => ((Y1.out.other (a := ⟨w.heap.size + 1 + 1 + 1, 0, none⟩) (by simp) u).other (a := ⟨w.heap.size + 1 + 1 + 1, 1, none⟩) (by simp) v).frozen
    have hY := fun (u v : Value) => ((Y1.out.other (a := ⟨w.heap.size + 1 + 1 + 1, 0, none⟩) (by simp) u).other (a := ⟨w.heap.size + 1 + 1 + 1, 1, none⟩) (by simp) v).cell
    go_wp2_with (go_at_call 28; refine (rwsignal_any _ _).mono ?_; rintro e v9 ⟨rfl, rfl⟩)
    have KX := hid ((X1.out.set 0 (.int .i64 0)).set 1 (.int .i64 0))
    have KX2 := hid ((KX.out.other (a := ⟨w.heap.size + 1 + 1 + 1 + 1, 0, none⟩) (by simp) (.int .i64 0)).other (a := ⟨w.heap.size + 1 + 1 + 1 + 1, 1, none⟩) (by simp) (.int .i64 0))
    have KY := hid ((((Y1.out.other (a := ⟨w.heap.size + 1 + 1 + 1, 0, none⟩) (by simp) (.int .i64 0)).other (a := ⟨w.heap.size + 1 + 1 + 1, 1, none⟩) (by simp) (.int .i64 0)).set 0 (.int .i64 0)).set 1 (.int .i64 0))
    have k0 := KX2.out.cell 0
    have k1 := KX2.out.cell 1
    have k2 := KY.out.cell 0
    have k3 := KY.out.cell 1
    simp at k0 k1 k2 k3
    refine bodyPost_ret (v := .tuple #[.agg #[.int .i64 0, .int .i64 0], .agg #[.int .i64 0, .int .i64 0], .int .i64 9]) (by simp [results, Try.results21, go_sem, k0, k1, k2, k3]) rfl ?_
    exact wl_no R.out (by decide) (by repeat (first | with_reducible exact B1.out | (with_reducible refine Below.setCell ?_ ?_ _; rotate_left; · (first | (simp; done) | (simp; omega) | omega))))
  have R : Hid (wlErr b m cp f t dB dM = 0) := hid (by unfold wlErr; rw [if_neg (by omega), if_pos HG.out, if_neg hft])
  have LE := hid (CP.l_ok HB.out ⟨db1, db2⟩).1
  have bd := CP.l_bd HB.out ⟨db1, db2⟩
  obtain ⟨⟨bd1, bd2⟩, bd3, bd4⟩ := bd
  have DI := hid (wlD_in (b := b) (cp := cp) (f := f) (t := t) (dB := dB) dm1)
  have ME := hid (CP.l_ok HM.out DI.out).1
  clear hc
  obtain ⟨L, hL⟩ : ∃ L, b.lLo dB = L := ⟨_, rfl⟩
  obtain ⟨H, hH⟩ : ∃ H, b.lHi dB = H := ⟨_, rfl⟩
  rw [hL] at bd1 bd2
  rw [hH] at bd3 bd4
  have c1 := coup_bd HCC.out (x := H - f) (X := 134217728) (by omega) (by omega)
  have c2 := coup_bd HCC.out (x := L - t) (X := 134217728) (by omega) (by omega)
  obtain ⟨_, _, c13, c14⟩ := c1
  obtain ⟨_, _, c23, c24⟩ := c2
  obtain ⟨p, hp⟩ : ∃ p, coup cp (H - f) = p := ⟨_, rfl⟩
  obtain ⟨q, hq⟩ : ∃ q, coup cp (L - t) = q := ⟨_, rfl⟩
  rw [hp] at c13 c14
  rw [hq] at c23 c24
  have WD : Hid (wlD b cp f t dB dM = min 65536 (dM + max (max p (-p)) (max q (-q)))) := hid (by unfold wlD wlC; rw [hL, hH, hp, hq])
  have HL := hid hL
  have HH := hid hH
  have HP := hid hp
  have HQ := hid hq
  clear hL hH hp hq
  go_enter Try.func21, Try.ntmps21
  go_upto_region 1 with fail
  go_wp2_with (refine wpList_load_blk2 (t := 29) rfl rfl rfl Try.underlying29 rfl (by kernel_rfl) (Blk.alloc (Blk.alloc (Blk.alloc (Blk.alloc (Blk.at_new w rfl) _) _) _) _) ?_)
  refine (rwcheck_any b m cp _).mono ?_
  rintro e w1 ⟨rfl, hb⟩
  have W1 : Hid (Blk w1 (w.heap.size) 29 #[.int .i64 b.kp, .int .i64 b.ki, .int .i64 b.sh, .int .i64 b.lo, .int .i64 b.hi, .int .i64 b.rate, .int .i64 b.ga, .int .i64 b.la, .int .i64 b.de, .int .i64 m.kp, .int .i64 m.ki, .int .i64 m.sh, .int .i64 m.lo, .int .i64 m.hi, .int .i64 m.rate, .int .i64 m.ga, .int .i64 m.la, .int .i64 m.de, .int .i64 cp]) := hid (Blk.below (Blk.alloc (Blk.alloc (Blk.alloc (Blk.alloc (Blk.at_new _ (by simp)) _) _) _) _) hb (by simp <;> omega))
  have P1 : Hid (Blk w1 (w.heap.size + 1) 54 #[.int .i64 f, .int .i64 t]) := hid (Blk.below (Blk.alloc (Blk.alloc (Blk.alloc (Blk.at_new _ (by simp)) _) _) _) hb (by simp <;> omega))
  have E1 : Hid (Blk w1 (w.heap.size + 1 + 1) 31 #[.int .i64 dB, .int .i64 dM]) := hid (Blk.below (Blk.alloc (Blk.alloc (Blk.at_new _ (by simp)) _) _) hb (by simp <;> omega))
  have X1 : Hid (Blk w1 (w.heap.size + 1 + 1 + 1) 54 #[.int .i64 0, .int .i64 0]) := hid (Blk.below (Blk.alloc (Blk.at_new _ (by simp)) _) hb (by simp <;> omega))
  have Y1 : Hid (Blk w1 (w.heap.size + 1 + 1 + 1 + 1) 54 #[.int .i64 0, .int .i64 0]) := hid (Blk.below (Blk.at_new _ (by simp)) hb (by simp <;> omega))
  have B1 : Hid (Below w.heap.size w w1) := hid (Below.trans ((((((Below.refl _ _).alloc (by simp <;> omega) _).alloc (by simp <;> omega) _).alloc (by simp <;> omega) _).alloc (by simp <;> omega) _).alloc (by simp <;> omega) _) (hb.mono (by simp <;> omega)))
  clear hb
  have cW_0 : ∀ (i : Nat), w1.cell? ⟨w.heap.size, i, none⟩ = (#[.int .i64 b.kp, .int .i64 b.ki, .int .i64 b.sh, .int .i64 b.lo, .int .i64 b.hi, .int .i64 b.rate, .int .i64 b.ga, .int .i64 b.la, .int .i64 b.de, .int .i64 m.kp, .int .i64 m.ki, .int .i64 m.sh, .int .i64 m.lo, .int .i64 m.hi, .int .i64 m.rate, .int .i64 m.ga, .int .i64 m.la, .int .i64 m.de, .int .i64 cp] : Array Value)[i]? := Blk.cell W1.out
  have cP_0 : ∀ (i : Nat), w1.cell? ⟨w.heap.size + 1, i, none⟩ = (#[.int .i64 f, .int .i64 t] : Array Value)[i]? := Blk.cell P1.out
  have cE_0 : ∀ (i : Nat), w1.cell? ⟨w.heap.size + 1 + 1, i, none⟩ = (#[.int .i64 dB, .int .i64 dM] : Array Value)[i]? := Blk.cell E1.out
  have cX_0 : ∀ (i : Nat), w1.cell? ⟨w.heap.size + 1 + 1 + 1, i, none⟩ = (#[.int .i64 0, .int .i64 0] : Array Value)[i]? := Blk.cell X1.out
  have cY_0 : ∀ (i : Nat), w1.cell? ⟨w.heap.size + 1 + 1 + 1 + 1, i, none⟩ = (#[.int .i64 0, .int .i64 0] : Array Value)[i]? := Blk.cell Y1.out
  rw [HC.out]
  go_wp2_with (go_at_call 28; refine (rwsignal_any _ _).mono ?_; rintro e v9 ⟨rfl, rfl⟩)
  refine (rclims b dB _).mono ?_
  rintro e w2 ⟨rfl, hb⟩
  have W2 := hid (Blk.below W1.out hb (Blk.lt W1.out))
  have P2 := hid (Blk.below P1.out hb (Blk.lt P1.out))
  have E2 := hid (Blk.below E1.out hb (Blk.lt E1.out))
  have X2 := hid (Blk.below X1.out hb (Blk.lt X1.out))
  have Y2 := hid (Blk.below Y1.out hb (Blk.lt Y1.out))
  have B2 : Hid (Below w.heap.size w w2) := hid (Below.trans B1.out (hb.mono (Nat.le_trans B1.out.size (by simp <;> omega))))
  clear hb
  clear cW_0 cP_0 cE_0 cX_0 cY_0
  have cW_0 : ∀ (i : Nat), w2.cell? ⟨w.heap.size, i, none⟩ = (#[.int .i64 b.kp, .int .i64 b.ki, .int .i64 b.sh, .int .i64 b.lo, .int .i64 b.hi, .int .i64 b.rate, .int .i64 b.ga, .int .i64 b.la, .int .i64 b.de, .int .i64 m.kp, .int .i64 m.ki, .int .i64 m.sh, .int .i64 m.lo, .int .i64 m.hi, .int .i64 m.rate, .int .i64 m.ga, .int .i64 m.la, .int .i64 m.de, .int .i64 cp] : Array Value)[i]? := Blk.cell W2.out
  have cP_0 : ∀ (i : Nat), w2.cell? ⟨w.heap.size + 1, i, none⟩ = (#[.int .i64 f, .int .i64 t] : Array Value)[i]? := Blk.cell P2.out
  have cE_0 : ∀ (i : Nat), w2.cell? ⟨w.heap.size + 1 + 1, i, none⟩ = (#[.int .i64 dB, .int .i64 dM] : Array Value)[i]? := Blk.cell E2.out
  have cX_0 : ∀ (i : Nat), w2.cell? ⟨w.heap.size + 1 + 1 + 1, i, none⟩ = (#[.int .i64 0, .int .i64 0] : Array Value)[i]? := Blk.cell X2.out
  have cY_0 : ∀ (i : Nat), w2.cell? ⟨w.heap.size + 1 + 1 + 1 + 1, i, none⟩ = (#[.int .i64 0, .int .i64 0] : Array Value)[i]? := Blk.cell Y2.out
  rw [HL.out, HH.out]
  have w1a : IntKind.i64.wrap (H - f) = H - f := IntWalk.i64_in _ (by omega)
  have w1b : IntKind.i64.wrap (L - t) = L - t := IntWalk.i64_in _ (by omega)
  go_upto_region 9 with fail
  clear cW_0 cP_0 cE_0 cX_0 cY_0
  refine wp_region_hand (fun w' => Blk w' w.heap.size 29 #[.int .i64 b.kp, .int .i64 b.ki, .int .i64 b.sh, .int .i64 b.lo, .int .i64 b.hi, .int .i64 b.rate, .int .i64 b.ga, .int .i64 b.la, .int .i64 b.de, .int .i64 m.kp, .int .i64 m.ki, .int .i64 m.sh, .int .i64 m.lo, .int .i64 m.hi, .int .i64 m.rate, .int .i64 m.ga, .int .i64 m.la, .int .i64 m.de, .int .i64 cp] ∧ Blk w' (w.heap.size + 1) 54 #[.int .i64 f, .int .i64 t]) (by kernel_rfl) ?_
  simp only [List.length_cons, List.length_nil, Nat.zero_add, Nat.reduceAdd]
  have hS : Blk w2.drew w.heap.size 29 #[.int .i64 b.kp, .int .i64 b.ki, .int .i64 b.sh, .int .i64 b.lo, .int .i64 b.hi, .int .i64 b.rate, .int .i64 b.ga, .int .i64 b.la, .int .i64 b.de, .int .i64 m.kp, .int .i64 m.ki, .int .i64 m.sh, .int .i64 m.lo, .int .i64 m.hi, .int .i64 m.rate, .int .i64 m.ga, .int .i64 m.la, .int .i64 m.de, .int .i64 cp] ∧ Blk w2.drew (w.heap.size + 1) 54 #[.int .i64 f, .int .i64 t] := ⟨W2.out, P2.out⟩
  refine take_at (i := 0) (v := ?_) rfl rfl (by kernel_rfl) (by kernel_rfl) (by kernel_rfl) (fun _ _ _ h => h) (Or.inl ⟨by rfl, ?_⟩) hS ?_
  rotate_left
  · intro w hSw; (try dsimp only at hSw); go_simp; try with_reducible rfl
  try simp only [List.setIfInBounds_toArray, List.set_cons_zero, List.set_cons_succ]
  refine take_at (i := 1) (v := ?_) rfl rfl (by kernel_rfl) (by kernel_rfl) (by kernel_rfl) (fun _ _ _ h => h) (Or.inl ⟨by rfl, ?_⟩) hS ?_
  rotate_left
  · intro wi hSw; have ci0 := hSw.1.cell; go_simp; try with_reducible rfl
  try simp only [List.setIfInBounds_toArray, List.set_cons_zero, List.set_cons_succ]
  refine take_at (i := 2) (v := ?_) rfl rfl (by kernel_rfl) (by kernel_rfl) (by kernel_rfl) (fun _ _ _ h => h) (Or.inl ⟨by rfl, ?_⟩) hS ?_
  rotate_left
  · intro w hSw; (try dsimp only at hSw); go_simp; try with_reducible rfl
  try simp only [List.setIfInBounds_toArray, List.set_cons_zero, List.set_cons_succ]
  refine take_at (i := 3) (v := ?_) rfl rfl (by kernel_rfl) (by kernel_rfl) (by kernel_rfl) (fun _ _ _ h => h) (Or.inl ⟨by rfl, ?_⟩) hS ?_
  rotate_left
  · intro w hSw; (try dsimp only at hSw); go_simp; try with_reducible rfl
  try simp only [List.setIfInBounds_toArray, List.set_cons_zero, List.set_cons_succ]
  refine take_at (i := 4) (v := ?_) rfl rfl (by kernel_rfl) (by kernel_rfl) (by kernel_rfl) (fun _ _ _ h => h) (Or.inl ⟨by rfl, ?_⟩) hS ?_
  rotate_left
  · intro wi hSw; have ci0 := hSw.2.cell; go_simp; try with_reducible rfl
  try simp only [List.setIfInBounds_toArray, List.set_cons_zero, List.set_cons_succ]
  refine take_at (i := 5) (v := ?_) rfl rfl (by kernel_rfl) (by kernel_rfl) (by kernel_rfl) (fun _ _ _ h => h) (Or.inl ⟨by rfl, ?_⟩) hS ?_
  rotate_left
  · intro w hSw; (try dsimp only at hSw); go_simp; try with_reducible rfl
  try simp only [List.setIfInBounds_toArray, List.set_cons_zero, List.set_cons_succ]
  refine take_at (i := 7) (v := ?_) rfl rfl (by kernel_rfl) (by kernel_rfl) (by kernel_rfl) (fun _ _ _ h => h) (Or.inl ⟨by rfl, ?_⟩) hS ?_
  rotate_left
  · intro w hSw; (try dsimp only at hSw); go_simp; try with_reducible rfl
  try simp only [List.setIfInBounds_toArray, List.set_cons_zero, List.set_cons_succ]
  refine take_at (i := 8) (v := ?_) rfl rfl (by kernel_rfl) (by kernel_rfl) (by kernel_rfl) (fun _ _ _ h => h) (Or.inl ⟨by rfl, ?_⟩) hS ?_
  rotate_left
  · intro wi hSw; have ci0 := hSw.1.cell; go_simp; try with_reducible rfl
  try simp only [List.setIfInBounds_toArray, List.set_cons_zero, List.set_cons_succ]
  refine take_at (i := 9) (v := ?_) rfl rfl (by kernel_rfl) (by kernel_rfl) (by kernel_rfl) (fun _ _ _ h => h) (Or.inl ⟨by rfl, ?_⟩) hS ?_
  rotate_left
  · intro w hSw; (try dsimp only at hSw); go_simp; try with_reducible rfl
  try simp only [List.setIfInBounds_toArray, List.set_cons_zero, List.set_cons_succ]
  refine take_at (i := 10) (v := ?_) rfl rfl (by kernel_rfl) (by kernel_rfl) (by kernel_rfl) (fun _ _ _ h => h) (Or.inl ⟨by rfl, ?_⟩) hS ?_
  rotate_left
  · intro w hSw; (try dsimp only at hSw); go_simp; try with_reducible rfl
  try simp only [List.setIfInBounds_toArray, List.set_cons_zero, List.set_cons_succ]
  refine take_at (i := 11) (v := ?_) rfl rfl (by kernel_rfl) (by kernel_rfl) (by kernel_rfl) (fun _ _ _ h => h) (Or.inl ⟨by rfl, ?_⟩) hS ?_
  rotate_left
  · intro wi hSw; have ci0 := hSw.2.cell; go_simp; try with_reducible rfl
  try simp only [List.setIfInBounds_toArray, List.set_cons_zero, List.set_cons_succ]
  refine take_at (i := 12) (v := ?_) rfl rfl (by kernel_rfl) (by kernel_rfl) (by kernel_rfl) (fun _ _ _ h => h) (Or.inl ⟨by rfl, ?_⟩) hS ?_
  rotate_left
  · intro w hSw; (try dsimp only at hSw); go_simp; try with_reducible rfl
  try simp only [List.setIfInBounds_toArray, List.set_cons_zero, List.set_cons_succ]
  refine wpAnyH_ready (rs := [6]) (by kernel_rfl) (by simp) ?_
  refine AllReadyH.cons rfl (fun K hK => ?_) AllReadyH.nil
  go_simp
  (go_at_call 38; refine (rcoup_any cp (H - f) _ HCC.out (by omega)).mono ?_; rintro e v9 ⟨rfl, rfl⟩; rw [HP.out])
  refine hK.out _ _ hS (fun hS => ?_)
  clear hK K
  try simp only [Act.put, List.setIfInBounds_toArray, List.set_cons_zero, List.set_cons_succ]
  refine wpAnyH_ready (rs := [13]) (by kernel_rfl) (by simp) ?_
  refine AllReadyH.cons rfl (fun K hK => ?_) AllReadyH.nil
  go_simp
  (go_at_call 38; refine (rcoup_any cp (L - t) _ HCC.out (by omega)).mono ?_; rintro e v9 ⟨rfl, rfl⟩; rw [HQ.out])
  refine hK.out _ _ hS (fun hS => ?_)
  clear hK K
  try simp only [Act.put, List.setIfInBounds_toArray, List.set_cons_zero, List.set_cons_succ]
  refine take_at (i := 14) (v := ?_) rfl rfl (by kernel_rfl) (by kernel_rfl) (by kernel_rfl) (fun _ _ _ h => h) (Or.inl ⟨by rfl, ?_⟩) hS ?_
  rotate_left
  · intro w hSw; (try dsimp only at hSw); go_simp; try with_reducible rfl
  try simp only [List.setIfInBounds_toArray, List.set_cons_zero, List.set_cons_succ]
  refine take_at (i := 15) (v := ?_) rfl rfl (by kernel_rfl) (by kernel_rfl) (by kernel_rfl) (fun _ _ _ h => h) (Or.inl ⟨by rfl, ?_⟩) hS ?_
  rotate_left
  · intro w hSw; (try dsimp only at hSw); go_simp; try with_reducible rfl
  try simp only [List.setIfInBounds_toArray, List.set_cons_zero, List.set_cons_succ]
  refine wpAnyH_done (by kernel_rfl) ?_ _
  simp only [Sure, Exit.then]
  clear hS
  clear w1a w1b
  have cW := W2.out.cell
  have cP := P2.out.cell
  have cE := E2.out.cell
  have cX := X2.out.cell
  have cY := Y2.out.cell
  go_wp2_with fail
  all_goals
    refine (rclims_eq m (wlD b cp f t dB dM) _ _ ?_).mono ?_
    · rw [WD.out]
      try omega
    rintro e w3 ⟨rfl, hb⟩
    have X3 := hid (Blk.below X2.out (show Below w2.heap.size w2 w3 from by first | exact hb | exact (Below.drew (Below.refl _ _)).trans hb) X2.out.lt)
    have Y3 := hid (Blk.below Y2.out (show Below w2.heap.size w2 w3 from by first | exact hb | exact (Below.drew (Below.refl _ _)).trans hb) Y2.out.lt)
    have B3 := hid (B2.out.trans ((show Below w2.heap.size w2 w3 from by first | exact hb | exact (Below.drew (Below.refl _ _)).trans hb).mono B2.out.size))
    clear hb cW cP cE cX cY
    go_upto_region 12 with fail
    go_wp2_with (first
      | (refine wpList_store_blk2 (b := w.heap.size + 1 + 1 + 1) (t := 54) (e := 54) (cs0 := #[.int .i64 0, .int .i64 0]) (cs := #[.int .i64 L, .int .i64 H]) rfl rfl rfl rfl (by kernel_rfl) rfl (by simp [Value.oneCell']) X3.out ?_)
      | (refine wpList_store_blk2 (b := w.heap.size + 1 + 1 + 1 + 1) (t := 54) (e := 54) (cs0 := #[.int .i64 0, .int .i64 0]) (cs := #[.int .i64 (m.lLo (wlD b cp f t dB dM)), .int .i64 (m.lHi (wlD b cp f t dB dM))]) rfl rfl rfl rfl (by kernel_rfl) rfl (by simp [Value.oneCell']) (Blk.rowOther Y3.out (by simp) _) ?_))
    have KX := hid (Blk.rowOther (g := w.heap.size + 1 + 1 + 1 + 1) (Blk.row X3.out #[.int .i64 L, .int .i64 H]) (by simp) #[.int .i64 (m.lLo (wlD b cp f t dB dM)), .int .i64 (m.lHi (wlD b cp f t dB dM))])
    have KY := hid (Blk.row (Blk.rowOther (g := w.heap.size + 1 + 1 + 1) Y3.out (by simp) #[.int .i64 L, .int .i64 H]) #[.int .i64 (m.lLo (wlD b cp f t dB dM)), .int .i64 (m.lHi (wlD b cp f t dB dM))])
    have k0 := KX.out.cell 0
    have k1 := KX.out.cell 1
    have k2 := KY.out.cell 0
    have k3 := KY.out.cell 1
    simp at k0 k1 k2 k3
    refine bodyPost_ret (v := .tuple #[.agg #[.int .i64 L, .int .i64 H], .agg #[.int .i64 (m.lLo (wlD b cp f t dB dM)), .int .i64 (m.lHi (wlD b cp f t dB dM))], .int .i64 0]) (by simp [results, Try.results21, go_sem, k0, k1, k2, k3]) rfl ?_
    exact wl_ok R.out HL.out.symm HH.out.symm rfl rfl (Below.row (Below.row B3.out (by omega) _) (by omega) _)
end Go.Proofs.Ytfdblofpfpmbhaa
