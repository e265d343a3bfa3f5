/- Chapter 28: the reference's Same; the states of rest. -/
import Derived.Test.YtddphdkhaaolmaaCWeb5
namespace Go.Proofs.Ytddphdkhaaolmaa
open Go.RowKit

theorem below_drewN {B : Nat} {a w : World} (h : Below B a w) (n : Nat) : Below B a (w.drewN n) := ⟨h.os, h.tape, h.output, h.size, h.block⟩
set_option linter.unusedSimpArgs false in
set_option maxRecDepth 100000 in
set_option maxHeartbeats 4000000 in
theorem same2_any (a1 a2 : Option Addr) (c1 c2 n1 n2 : Nat) (ra rb : List (List Int)) (w : World) (r1 : Rds Nn w 2 a1 n1 (ints ra.flatten)) (r2 : Rds Nn w 2 a2 n2 (ints rb.flatten)) (t1 : ∀ r ∈ ra, r.length = 2) (t2 : ∀ r ∈ rb, r.length = 2) (e1 : n1 = ra.length) (e2 : n2 = rb.length) (hn : n1 ≤ 1000000) : Calls Try.prog 16 #[.slice a1 n1 c1, .slice a2 n2 c2] w fun e w' => e = .returned (.bool (decide (ra = rb))) ∧ Below w.heap.size w w' := by
  subst e1 e2
  have R1 := hid r1
  have R2 := hid r2
  have T1 := hid t1
  have T2 := hid t2
  clear r1 r2 t1 t2
  by_cases hl : ra.length = rb.length
  · have HL := hid hl
    go_enter Try.func16, Try.ntmps16
    go_wp2
    go_loopw [5] (fun i wr => ∃ k : Nat, k ≤ ra.length ∧ i = .int .i64 k ∧ ra.take k = rb.take k ∧ Below w.heap.size w wr) (fun i _ => ra.length - (intOf i).toNat)
    case atStart => exact ⟨0, Nat.zero_le _, rfl, rfl, Below.refl _ _⟩
    case round =>
      obtain ⟨k, hk, rfl, heq, hbel⟩ := hrel
      have BB := hid hbel
      have EQ := hid heq
      clear hbel heq
      by_cases hlt : k < ra.length
      · obtain ⟨p1, o1, x1, x2, rfl, hp1, hx, hx1⟩ := cells_at R1.out T1.out rfl hlt
        obtain ⟨p2, o2, y1, y2, rfl, hp2, hy, hy1⟩ := cells_at R2.out T2.out rfl (k := k) (by omega)
        have c1' := (hx1 _ BB.out).1
        have c2' := (hx1 _ BB.out).2
        have d1' := (hy1 _ BB.out).1
        have d2' := (hy1 _ BB.out).2
        have HX := hid hx
        have HY := hid hy
        clear hp1 hp2 hx hx1 hy hy1
        by_cases hxy : x1 = y1 ∧ x2 = y2
        · obtain ⟨rfl, rfl⟩ := hxy
          go_wp2_with fail
          go_quiet (fail)
          go_wp2
          go_roundw
          case rel => exact ⟨k + 1, by omega, by go_num, by rw [List.take_add_one, List.take_add_one, EQ.out, HX.out, HY.out], below_drewN BB.out _⟩
          case measure => simp [intOf]; omega
        · have R : Hid (false = decide (ra = rb)) := hid (by
            simp
            intro h
            have h1 := HX.out
            rw [h, HY.out] at h1
            simp at h1
            omega)
          by_cases h1 : x1 = y1
          · subst h1
            have h3 : ¬ x2 = y2 := fun h => hxy ⟨rfl, h⟩
            clear hxy
            go_wp2_with fail
            go_quiet (fail)
            go_wp2
            go_ret
            exact ⟨ret_b R.out, below_drewN BB.out _⟩
          · clear hxy
            go_wp2_with fail
            go_quiet (fail)
            go_wp2
            go_ret
            exact ⟨ret_b R.out, below_drewN BB.out _⟩
      · obtain rfl : k = ra.length := by omega
        have R : Hid (true = decide (ra = rb)) := hid (by
          have := EQ.out
          rw [List.take_of_length_le (Nat.le_refl _), List.take_of_length_le (by omega)] at this
          simp [this])
        go_wp2
        go_ret
        exact ⟨ret_b R.out, BB.out⟩
  · have R : Hid (false = decide (ra = rb)) := hid (by
      simp
      intro h
      exact hl (by rw [h]))
    go_enter Try.func16, Try.ntmps16
    go_wp2
    go_ret
    exact ⟨ret_b R.out, Below.refl _ _⟩

/-! ### Rest -/
def CP.IsRest (b : CP) (x n : Int) : Prop := Go.Proofs.Ytddphdkhaaolmaa.IsRest b.ga b.lo b.hi x n
/-- What Rest returns: the outputs and the values. -/
def RestSpec (b m : CP) (cp x y oB oM vB vM er : Int) : Prop :=
  (chkW b m cp ≠ 0 → er = chkW b m cp) ∧ (chkW b m cp = 0 → ¬ (absB x 16777216 = true ∧ absB y 16777216 = true) → er = 1) ∧ (er ≠ 0 → oB = 0 ∧ oM = 0 ∧ vB = 0 ∧ vM = 0) ∧
  (chkW b m cp = 0 → absB x 16777216 = true ∧ absB y 16777216 = true → er = 0 ∧ b.IsRest x oB ∧ m.IsRest y oM ∧ vB = tgt b.ga oB ∧ vM = tgt m.ga oM)
theorem rest_same {b m : CP} {cp x y oB oM vB vM er oB' oM' vB' vM' er' : Int} (h : RestSpec b m cp x y oB oM vB vM er) (k : RestSpec b m cp x y oB' oM' vB' vM' er') : oB = oB' ∧ oM = oM' ∧ vB = vB' ∧ vM = vM' ∧ er = er' := by
  obtain ⟨h1, h2, h3, h4⟩ := h
  obtain ⟨k1, k2, k3, k4⟩ := k
  by_cases hc : chkW b m cp = 0
  · by_cases hs : absB x 16777216 = true ∧ absB y 16777216 = true
    · obtain ⟨a1, a2, a3, a4, a5⟩ := h4 hc hs
      obtain ⟨b1, b2, b3, b4, b5⟩ := k4 hc hs
      have e1 := rest_one a2 b2
      have e2 := rest_one a3 b3
      subst e1 e2
      exact ⟨rfl, rfl, by rw [a4, b4], by rw [a5, b5], by rw [a1, b1]⟩
    · have a := h2 hc hs
      have b := k2 hc hs
      obtain ⟨p1, p2, p3, p4⟩ := h3 (by omega)
      obtain ⟨q1, q2, q3, q4⟩ := k3 (by omega)
      exact ⟨by rw [p1, q1], by rw [p2, q2], by rw [p3, q3], by rw [p4, q4], by rw [a, b]⟩
  · have a := h1 hc
    have b := k1 hc
    obtain ⟨p1, p2, p3, p4⟩ := h3 (by omega)
    obtain ⟨q1, q2, q3, q4⟩ := k3 (by omega)
    exact ⟨by rw [p1, q1], by rw [p2, q2], by rw [p3, q3], by rw [p4, q4], by rw [a, b]⟩
def RestW (b m : CP) (cp x y : Int) (w : World) : Ending → World → Prop := fun e w' => ∃ oB oM vB vM er, e = .returned (.tuple #[.agg #[.int .i64 oB, .int .i64 oM, .int .i64 vB, .int .i64 vM], .int .i64 er]) ∧ RestSpec b m cp x y oB oM vB vM er ∧ Below w.heap.size w w'
theorem restw_no {b m : CP} {cp x y er : Int} {w w' : World} (h : er = (if chkW b m cp ≠ 0 then chkW b m cp else 1)) (hn : chkW b m cp = 0 → ¬ (absB x 16777216 = true ∧ absB y 16777216 = true)) (hb : Below w.heap.size w w') : RestW b m cp x y w (.returned (.tuple #[.agg #[.int .i64 0, .int .i64 0, .int .i64 0, .int .i64 0], .int .i64 er])) w' := by
  refine ⟨0, 0, 0, 0, er, rfl, ⟨fun hc => by rw [h, if_pos hc], fun hc _ => by rw [h, if_neg (by omega)], fun _ => ⟨rfl, rfl, rfl, rfl⟩, fun hc hs => absurd hs (hn hc)⟩, hb⟩
theorem restw_ok {b m : CP} {cp x y oB oM : Int} {w w' : World} (hc : chkW b m cp = 0) (hs : absB x 16777216 = true ∧ absB y 16777216 = true) (h1 : b.IsRest x oB) (h2 : m.IsRest y oM) (hb : Below w.heap.size w w') : RestW b m cp x y w (.returned (.tuple #[.agg #[.int .i64 oB, .int .i64 oM, .int .i64 (tgt b.ga oB), .int .i64 (tgt m.ga oM)], .int .i64 0])) w' :=
  ⟨_, _, _, _, _, rfl, ⟨fun h => absurd hc h, fun _ h => absurd hs h, fun h => absurd rfl h, fun _ _ => ⟨rfl, h1, h2, rfl, rfl⟩⟩, hb⟩
/-- Rest of a process of a loop that is permitted. -/
def ROne (b : CP) (x : Int) (w : World) : Ending → World → Prop := fun e w' => ∃ n, e = .returned (.tuple #[.int .i64 n, .int .i64 0]) ∧ b.IsRest x n ∧ (-16777216 ≤ n ∧ n ≤ 16777216) ∧ Below w.heap.size w w'
theorem rone_of {b : CP} {x : Int} {w : World} (hb : b.err = 0) (hx : absB x 16777216 = true) : ∀ e w', RestPost b.ga b.la b.de b.lo b.hi x w e w' → ROne b x w e w' := by
  obtain ⟨h1, h2, _, _⟩ := chkC_ok hb
  have ck := Ct.chk_ok h1
  have xb := absB_true hx
  have hbd : bdErr b.ga b.la b.de b.lo b.hi 0 = 0 := bd_of hb (by omega)
  have h0 : restErr b.ga b.la b.de b.lo b.hi x = 0 := by
    unfold restErr
    rw [if_neg (by omega), if_pos (absB_mk (by omega) (by omega))]
  rintro e w' ⟨n, rfl, h3, _, h5⟩
  have h6 := h3 h0
  exact ⟨n, by rw [h0], h6, ⟨by have := h6.1; omega, by have := h6.2.1; omega⟩, h5⟩
theorem prest_ok (b : CP) (x : Int) (w : World) (hb : b.err = 0) (hx : absB x 16777216 = true) : Calls Try.prog 67 #[.agg #[.int .i64 b.ga, .int .i64 b.la, .int .i64 b.de], .int .i64 b.lo, .int .i64 b.hi, .int .i64 x] w (ROne b x w) := (rest_any _ _ _ _ _ _ w).mono (rone_of hb hx)
theorem rprest_ok (b : CP) (x : Int) (w : World) (hb : b.err = 0) (hx : absB x 16777216 = true) : Calls Try.prog 51 #[.agg #[.int .i64 b.ga, .int .i64 b.la, .int .i64 b.de], .int .i64 b.lo, .int .i64 b.hi, .int .i64 x] w (ROne b x w) := (rrest_any _ _ _ _ _ _ w).mono (rone_of hb hx)
theorem ptgt_ok (b : CP) (n : Int) (w : World) (hb : b.err = 0) (hn : -16777216 ≤ n ∧ n ≤ 16777216) : Calls Try.prog 65 #[.agg #[.int .i64 b.ga, .int .i64 b.la, .int .i64 b.de], .int .i64 n] w fun e w' => e = .returned (.tuple #[.int .i64 (tgt b.ga n), .int .i64 0]) ∧ Below w.heap.size w w' := target_ok _ _ _ _ w (chkC_ok hb).2.1 hn
theorem rptgt_ok (b : CP) (n : Int) (w : World) (hb : b.err = 0) (hn : -16777216 ≤ n ∧ n ≤ 16777216) : Calls Try.prog 52 #[.agg #[.int .i64 b.ga, .int .i64 b.la, .int .i64 b.de], .int .i64 n] w fun e w' => e = .returned (.tuple #[.int .i64 (tgt b.ga n), .int .i64 0]) ∧ Below w.heap.size w w' := rtarget_ok _ _ _ _ w (chkC_ok hb).2.1 hn
def WOne (b : CP) (x : Int) (w : World) : Ending → World → Prop := fun e w' => ∃ n, e = .returned (.tuple #[.int .i64 n, .int .i64 (tgt b.ga n), .int .i64 0]) ∧ b.IsRest x n ∧ Below w.heap.size w w'
set_option linter.unusedSimpArgs false in
set_option maxRecDepth 100000 in
set_option maxHeartbeats 2000000 in
theorem wrest_one (b : CP) (x : Int) (w : World) (hb : b.err = 0) (hx : absB x 16777216 = true) : Calls Try.prog 44 #[.agg #[.int .i64 b.kp, .int .i64 b.ki, .int .i64 b.sh, .int .i64 b.lo, .int .i64 b.hi, .int .i64 b.rate, .int .i64 b.ga, .int .i64 b.la, .int .i64 b.de], .int .i64 x] w (WOne b x w) := by
  have HB := hid hb
  have HX := hid hx
  clear hb hx
  go_enter Try.func44, Try.ntmps44
  go_wp2_with fail
  refine (prest_ok b x _ HB.out HX.out).mono ?_
  rintro e w1 ⟨n, rfl, hn, hnb, hb⟩
  have C1 : Hid (Blk w1 (w.heap.size) 27 #[.int .i64 b.kp, .int .i64 b.ki, .int .i64 b.sh, .int .i64 b.lo, .int .i64 b.hi, .int .i64 b.rate, .int .i64 b.ga, .int .i64 b.la, .int .i64 b.de]) := hid (Blk.below (Blk.at_new _ (by simp)) hb (by simp <;> omega))
  have B1 : Hid (Below w.heap.size w w1) := hid (Below.trans ((Below.refl _ _).alloc (by simp <;> omega) _) (hb.mono (by simp <;> omega)))
  clear hb
  have cC_0 : ∀ (i : Nat), w1.cell? ⟨w.heap.size, i, none⟩ = (#[.int .i64 b.kp, .int .i64 b.ki, .int .i64 b.sh, .int .i64 b.lo, .int .i64 b.hi, .int .i64 b.rate, .int .i64 b.ga, .int .i64 b.la, .int .i64 b.de] : Array Value)[i]? := Blk.cell C1.out
  have HN := hid hn
  clear hn
  go_wp2_with fail
  refine (ptgt_ok b n _ HB.out hnb).mono ?_
  rintro e w2 ⟨rfl, hb⟩
  have C2 := hid (Blk.below C1.out hb (Blk.lt C1.out))
  have B2 : Hid (Below w.heap.size w w2) := hid (Below.trans B1.out (hb.mono (Nat.le_trans B1.out.size (by simp <;> omega))))
  clear hb
  clear cC_0
  go_wp2
  go_ret3
  exact ⟨n, rfl, HN.out, B2.out⟩
set_option linter.unusedSimpArgs false in
set_option maxRecDepth 100000 in
set_option maxHeartbeats 4000000 in
theorem wrests_any (b m : CP) (cp : Int) (x y : Int) (w : World) : Calls Try.prog 25 #[.agg #[.int .i64 b.kp, .int .i64 b.ki, .int .i64 b.sh, .int .i64 b.lo, .int .i64 b.hi, .int .i64 b.rate, .int .i64 b.ga, .int .i64 b.la, .int .i64 b.de, .int .i64 m.kp, .int .i64 m.ki, .int .i64 m.sh, .int .i64 m.lo, .int .i64 m.hi, .int .i64 m.rate, .int .i64 m.ga, .int .i64 m.la, .int .i64 m.de, .int .i64 cp], .agg #[.int .i64 x, .int .i64 y]] w (RestW b m cp x y w) := by
  by_cases hc : chkW b m cp = 0
  rotate_left
  · have RN := hid hc
    go_enter Try.func25, Try.ntmps25
    go_wp2_with (refine wpList_load_blk (t := 29) (Blk.alloc (Blk.alloc (Blk.at_new w rfl) _) _) Try.underlying29 rfl (by kernel_rfl) rfl rfl rfl ?_)
    refine (wcheck_any b m cp _).mono ?_
    rintro e w1 ⟨rfl, hb⟩
    have W1 : Hid (Blk w1 (w.heap.size) 29 #[.int .i64 b.kp, .int .i64 b.ki, .int .i64 b.sh, .int .i64 b.lo, .int .i64 b.hi, .int .i64 b.rate, .int .i64 b.ga, .int .i64 b.la, .int .i64 b.de, .int .i64 m.kp, .int .i64 m.ki, .int .i64 m.sh, .int .i64 m.lo, .int .i64 m.hi, .int .i64 m.rate, .int .i64 m.ga, .int .i64 m.la, .int .i64 m.de, .int .i64 cp]) := hid (Blk.below (Blk.alloc (Blk.alloc (Blk.at_new _ (by simp)) _) _) hb (by simp <;> omega))
    have X1 : Hid (Blk w1 (w.heap.size + 1) 60 #[.int .i64 x, .int .i64 y]) := hid (Blk.below (Blk.alloc (Blk.at_new _ (by simp)) _) hb (by simp <;> omega))
    have S1 : Hid (Blk w1 (w.heap.size + 1 + 1) 63 #[.int .i64 0, .int .i64 0, .int .i64 0, .int .i64 0]) := hid (Blk.below (Blk.at_new _ (by simp)) hb (by simp <;> omega))
    have B1 : Hid (Below w.heap.size w w1) := hid (Below.trans ((((Below.refl _ _).alloc (by simp <;> omega) _).alloc (by simp <;> omega) _).alloc (by simp <;> omega) _) (hb.mono (by simp <;> omega)))
    clear hb
    have cW_0 : ∀ (i : Nat), w1.cell? ⟨w.heap.size, i, none⟩ = (#[.int .i64 b.kp, .int .i64 b.ki, .int .i64 b.sh, .int .i64 b.lo, .int .i64 b.hi, .int .i64 b.rate, .int .i64 b.ga, .int .i64 b.la, .int .i64 b.de, .int .i64 m.kp, .int .i64 m.ki, .int .i64 m.sh, .int .i64 m.lo, .int .i64 m.hi, .int .i64 m.rate, .int .i64 m.ga, .int .i64 m.la, .int .i64 m.de, .int .i64 cp] : Array Value)[i]? := Blk.cell W1.out
    have cX_0 : ∀ (i : Nat), w1.cell? ⟨w.heap.size + 1, i, none⟩ = (#[.int .i64 x, .int .i64 y] : Array Value)[i]? := Blk.cell X1.out
    have cS_0 : ∀ (i : Nat), w1.cell? ⟨w.heap.size + 1 + 1, i, none⟩ = (#[.int .i64 0, .int .i64 0, .int .i64 0, .int .i64 0] : Array Value)[i]? := Blk.cell S1.out
    have hz : (chkW b m cp != 0) = true := by simpa using hc
    have fS := S1.out.frozen
    go_wp2
    have K := hid ((((S1.out.set 0 (.int .i64 0)).set 1 (.int .i64 0)).set 2 (.int .i64 0)).set 3 (.int .i64 0))
    have k0 := K.out.cell 0
    have k1 := K.out.cell 1
    have k2 := K.out.cell 2
    have k3 := K.out.cell 3
    simp at k0 k1 k2 k3
    refine bodyPost_ret (v := .tuple #[.agg #[.int .i64 0, .int .i64 0, .int .i64 0, .int .i64 0], .int .i64 (chkW b m cp)]) (by simp [results, Try.results25, go_sem, k0, k1, k2, k3]) rfl ?_
    exact restw_no (by rw [if_pos RN.out]) (fun h => absurd h RN.out) (by repeat (first | with_reducible exact B1.out | with_reducible refine Below.setCell ?_ (by simp <;> omega) _))
  have HC := hid hc
  obtain ⟨hb1, hm1, _⟩ := chkW_ok hc
  have HB := hid hb1
  have HM := hid hm1
  clear hc hb1 hm1
  by_cases hs : absB x 16777216 = true ∧ absB y 16777216 = true
  rotate_left
  · have HN := hid hs
    have hq : Ct.inB x (-16777216) 16777216 = false ∨ (Ct.inB x (-16777216) 16777216 = true ∧ Ct.inB y (-16777216) 16777216 = false) := by
      have e1 : ∀ z, absB z 16777216 = Ct.inB z (-16777216) 16777216 := fun z => rfl
      rw [e1, e1] at hs
      cases h1 : Ct.inB x (-16777216) 16777216
      · exact .inl rfl
      · cases h2 : Ct.inB y (-16777216) 16777216
        · exact .inr ⟨rfl, rfl⟩
        · exact absurd ⟨h1, h2⟩ hs
    clear hs
    rcases hq with hq | ⟨hq1, hq2⟩
    all_goals
      go_enter Try.func25, Try.ntmps25
      go_wp2_with (refine wpList_load_blk (t := 29) (Blk.alloc (Blk.alloc (Blk.at_new w rfl) _) _) Try.underlying29 rfl (by kernel_rfl) rfl rfl rfl ?_)
      refine (wcheck_any b m cp _).mono ?_
      rintro e w1 ⟨rfl, hb⟩
      have W1 : Hid (Blk w1 (w.heap.size) 29 #[.int .i64 b.kp, .int .i64 b.ki, .int .i64 b.sh, .int .i64 b.lo, .int .i64 b.hi, .int .i64 b.rate, .int .i64 b.ga, .int .i64 b.la, .int .i64 b.de, .int .i64 m.kp, .int .i64 m.ki, .int .i64 m.sh, .int .i64 m.lo, .int .i64 m.hi, .int .i64 m.rate, .int .i64 m.ga, .int .i64 m.la, .int .i64 m.de, .int .i64 cp]) := hid (Blk.below (Blk.alloc (Blk.alloc (Blk.at_new _ (by simp)) _) _) hb (by simp <;> omega))
      have X1 : Hid (Blk w1 (w.heap.size + 1) 60 #[.int .i64 x, .int .i64 y]) := hid (Blk.below (Blk.alloc (Blk.at_new _ (by simp)) _) hb (by simp <;> omega))
      have S1 : Hid (Blk w1 (w.heap.size + 1 + 1) 63 #[.int .i64 0, .int .i64 0, .int .i64 0, .int .i64 0]) := hid (Blk.below (Blk.at_new _ (by simp)) hb (by simp <;> omega))
      have B1 : Hid (Below w.heap.size w w1) := hid (Below.trans ((((Below.refl _ _).alloc (by simp <;> omega) _).alloc (by simp <;> omega) _).alloc (by simp <;> omega) _) (hb.mono (by simp <;> omega)))
      clear hb
      have cW_0 : ∀ (i : Nat), w1.cell? ⟨w.heap.size, i, none⟩ = (#[.int .i64 b.kp, .int .i64 b.ki, .int .i64 b.sh, .int .i64 b.lo, .int .i64 b.hi, .int .i64 b.rate, .int .i64 b.ga, .int .i64 b.la, .int .i64 b.de, .int .i64 m.kp, .int .i64 m.ki, .int .i64 m.sh, .int .i64 m.lo, .int .i64 m.hi, .int .i64 m.rate, .int .i64 m.ga, .int .i64 m.la, .int .i64 m.de, .int .i64 cp] : Array Value)[i]? := Blk.cell W1.out
      have cX_0 : ∀ (i : Nat), w1.cell? ⟨w.heap.size + 1, i, none⟩ = (#[.int .i64 x, .int .i64 y] : Array Value)[i]? := Blk.cell X1.out
      have cS_0 : ∀ (i : Nat), w1.cell? ⟨w.heap.size + 1 + 1, i, none⟩ = (#[.int .i64 0, .int .i64 0, .int .i64 0, .int .i64 0] : Array Value)[i]? := Blk.cell S1.out
      rw [HC.out]
      have fS := S1.out.frozen
      go_wp2_with (go_at_call 43; refine (win_any _ _ _ _).mono ?_; rintro e v9 ⟨rfl, rfl⟩)
      have K := hid ((((S1.out.set 0 (.int .i64 0)).set 1 (.int .i64 0)).set 2 (.int .i64 0)).set 3 (.int .i64 0))
      have k0 := K.out.cell 0
      have k1 := K.out.cell 1
      have k2 := K.out.cell 2
      have k3 := K.out.cell 3
      simp at k0 k1 k2 k3
      refine bodyPost_ret (v := .tuple #[.agg #[.int .i64 0, .int .i64 0, .int .i64 0, .int .i64 0], .int .i64 1]) (by simp [results, Try.results25, go_sem, k0, k1, k2, k3]) rfl ?_
      exact restw_no (by rw [if_neg (by rw [HC.out]; decide)]) (fun _ => HN.out) (by repeat (first | with_reducible exact B1.out | with_reducible refine Below.setCell ?_ (by simp <;> omega) _))
  have HS := hid hs
  have q1 : Ct.inB x (-16777216) 16777216 = true := hs.1
  have q2 : Ct.inB y (-16777216) 16777216 = true := hs.2
  clear hs
  go_enter Try.func25, Try.ntmps25
  go_wp2_with (refine wpList_load_blk (t := 29) (Blk.alloc (Blk.alloc (Blk.at_new w rfl) _) _) Try.underlying29 rfl (by kernel_rfl) rfl rfl rfl ?_)
  refine (wcheck_any b m cp _).mono ?_
  rintro e w1 ⟨rfl, hb⟩
  have W1 : Hid (Blk w1 (w.heap.size) 29 #[.int .i64 b.kp, .int .i64 b.ki, .int .i64 b.sh, .int .i64 b.lo, .int .i64 b.hi, .int .i64 b.rate, .int .i64 b.ga, .int .i64 b.la, .int .i64 b.de, .int .i64 m.kp, .int .i64 m.ki, .int .i64 m.sh, .int .i64 m.lo, .int .i64 m.hi, .int .i64 m.rate, .int .i64 m.ga, .int .i64 m.la, .int .i64 m.de, .int .i64 cp]) := hid (Blk.below (Blk.alloc (Blk.alloc (Blk.at_new _ (by simp)) _) _) hb (by simp <;> omega))
  have X1 : Hid (Blk w1 (w.heap.size + 1) 60 #[.int .i64 x, .int .i64 y]) := hid (Blk.below (Blk.alloc (Blk.at_new _ (by simp)) _) hb (by simp <;> omega))
  have S1 : Hid (Blk w1 (w.heap.size + 1 + 1) 63 #[.int .i64 0, .int .i64 0, .int .i64 0, .int .i64 0]) := hid (Blk.below (Blk.at_new _ (by simp)) hb (by simp <;> omega))
  have B1 : Hid (Below w.heap.size w w1) := hid (Below.trans ((((Below.refl _ _).alloc (by simp <;> omega) _).alloc (by simp <;> omega) _).alloc (by simp <;> omega) _) (hb.mono (by simp <;> omega)))
  clear hb
  have cW_0 : ∀ (i : Nat), w1.cell? ⟨w.heap.size, i, none⟩ = (#[.int .i64 b.kp, .int .i64 b.ki, .int .i64 b.sh, .int .i64 b.lo, .int .i64 b.hi, .int .i64 b.rate, .int .i64 b.ga, .int .i64 b.la, .int .i64 b.de, .int .i64 m.kp, .int .i64 m.ki, .int .i64 m.sh, .int .i64 m.lo, .int .i64 m.hi, .int .i64 m.rate, .int .i64 m.ga, .int .i64 m.la, .int .i64 m.de, .int .i64 cp] : Array Value)[i]? := Blk.cell W1.out
  have cX_0 : ∀ (i : Nat), w1.cell? ⟨w.heap.size + 1, i, none⟩ = (#[.int .i64 x, .int .i64 y] : Array Value)[i]? := Blk.cell X1.out
  have cS_0 : ∀ (i : Nat), w1.cell? ⟨w.heap.size + 1 + 1, i, none⟩ = (#[.int .i64 0, .int .i64 0, .int .i64 0, .int .i64 0] : Array Value)[i]? := Blk.cell S1.out
  rw [HC.out]
  go_wp2_with (go_at_call 43; refine (win_any _ _ _ _).mono ?_; rintro e v9 ⟨rfl, rfl⟩)
  refine (wrest_one b x _ HB.out HS.out.1).mono ?_
  rintro e w2 ⟨nb, rfl, hn, hb⟩
  have W2 := hid (Blk.below W1.out hb (Blk.lt W1.out))
  have X2 := hid (Blk.below X1.out hb (Blk.lt X1.out))
  have S2 := hid (Blk.below S1.out hb (Blk.lt S1.out))
  have B2 : Hid (Below w.heap.size w w2) := hid (Below.trans B1.out (hb.mono (Nat.le_trans B1.out.size (by simp <;> omega))))
  clear hb
  clear cW_0 cX_0 cS_0
  have cW_0 : ∀ (i : Nat), w2.cell? ⟨w.heap.size, i, none⟩ = (#[.int .i64 b.kp, .int .i64 b.ki, .int .i64 b.sh, .int .i64 b.lo, .int .i64 b.hi, .int .i64 b.rate, .int .i64 b.ga, .int .i64 b.la, .int .i64 b.de, .int .i64 m.kp, .int .i64 m.ki, .int .i64 m.sh, .int .i64 m.lo, .int .i64 m.hi, .int .i64 m.rate, .int .i64 m.ga, .int .i64 m.la, .int .i64 m.de, .int .i64 cp] : Array Value)[i]? := Blk.cell W2.out
  have cX_0 : ∀ (i : Nat), w2.cell? ⟨w.heap.size + 1, i, none⟩ = (#[.int .i64 x, .int .i64 y] : Array Value)[i]? := Blk.cell X2.out
  have cS_0 : ∀ (i : Nat), w2.cell? ⟨w.heap.size + 1 + 1, i, none⟩ = (#[.int .i64 0, .int .i64 0, .int .i64 0, .int .i64 0] : Array Value)[i]? := Blk.cell S2.out
  have HNB := hid hn
  clear hn
  go_wp2_with fail
  refine (wrest_one m y _ HM.out HS.out.2).mono ?_
  rintro e w3 ⟨nm, rfl, hn, hb⟩
  have W3 := hid (Blk.below W2.out hb (Blk.lt W2.out))
  have X3 := hid (Blk.below X2.out hb (Blk.lt X2.out))
  have S3 := hid (Blk.below S2.out hb (Blk.lt S2.out))
  have B3 : Hid (Below w.heap.size w w3) := hid (Below.trans B2.out (hb.mono (Nat.le_trans B2.out.size (by simp <;> omega))))
  clear hb
  clear cW_0 cX_0 cS_0
  have cW_0 : ∀ (i : Nat), w3.cell? ⟨w.heap.size, i, none⟩ = (#[.int .i64 b.kp, .int .i64 b.ki, .int .i64 b.sh, .int .i64 b.lo, .int .i64 b.hi, .int .i64 b.rate, .int .i64 b.ga, .int .i64 b.la, .int .i64 b.de, .int .i64 m.kp, .int .i64 m.ki, .int .i64 m.sh, .int .i64 m.lo, .int .i64 m.hi, .int .i64 m.rate, .int .i64 m.ga, .int .i64 m.la, .int .i64 m.de, .int .i64 cp] : Array Value)[i]? := Blk.cell W3.out
  have cX_0 : ∀ (i : Nat), w3.cell? ⟨w.heap.size + 1, i, none⟩ = (#[.int .i64 x, .int .i64 y] : Array Value)[i]? := Blk.cell X3.out
  have cS_0 : ∀ (i : Nat), w3.cell? ⟨w.heap.size + 1 + 1, i, none⟩ = (#[.int .i64 0, .int .i64 0, .int .i64 0, .int .i64 0] : Array Value)[i]? := Blk.cell S3.out
  have HNM := hid hn
  clear hn
  have fS := S3.out.frozen
  go_wp2
  have K := hid ((((S3.out.set 0 (.int .i64 nb)).set 1 (.int .i64 nm)).set 2 (.int .i64 (tgt b.ga nb))).set 3 (.int .i64 (tgt m.ga nm)))
  have k0 := K.out.cell 0
  have k1 := K.out.cell 1
  have k2 := K.out.cell 2
  have k3 := K.out.cell 3
  simp at k0 k1 k2 k3
  refine bodyPost_ret (v := .tuple #[.agg #[.int .i64 nb, .int .i64 nm, .int .i64 (tgt b.ga nb), .int .i64 (tgt m.ga nm)], .int .i64 0]) (by simp [results, Try.results25, go_sem, k0, k1, k2, k3]) rfl ?_
  exact restw_ok HC.out HS.out HNB.out HNM.out (by repeat (first | with_reducible exact B3.out | with_reducible refine Below.setCell ?_ (by simp <;> omega) _))
set_option linter.unusedSimpArgs false in
set_option maxRecDepth 100000 in
set_option maxHeartbeats 4000000 in
theorem rwrests_any (b m : CP) (cp : Int) (x y : Int) (w : World) : Calls Try.prog 35 #[.agg #[.int .i64 b.kp, .int .i64 b.ki, .int .i64 b.sh, .int .i64 b.lo, .int .i64 b.hi, .int .i64 b.rate, .int .i64 b.ga, .int .i64 b.la, .int .i64 b.de, .int .i64 m.kp, .int .i64 m.ki, .int .i64 m.sh, .int .i64 m.lo, .int .i64 m.hi, .int .i64 m.rate, .int .i64 m.ga, .int .i64 m.la, .int .i64 m.de, .int .i64 cp], .agg #[.int .i64 x, .int .i64 y]] w (RestW b m cp x y w) := by
  by_cases hc : chkW b m cp = 0
  rotate_left
  · have RN := hid hc
    go_enter Try.func35, Try.ntmps35
    go_wp2_with (refine wpList_load_blk (t := 29) (Blk.alloc (Blk.alloc (Blk.at_new w rfl) _) _) Try.underlying29 rfl (by kernel_rfl) rfl rfl rfl ?_)
    refine (rwcheck_any b m cp _).mono ?_
    rintro e w1 ⟨rfl, hb⟩
    have W1 : Hid (Blk w1 (w.heap.size) 29 #[.int .i64 b.kp, .int .i64 b.ki, .int .i64 b.sh, .int .i64 b.lo, .int .i64 b.hi, .int .i64 b.rate, .int .i64 b.ga, .int .i64 b.la, .int .i64 b.de, .int .i64 m.kp, .int .i64 m.ki, .int .i64 m.sh, .int .i64 m.lo, .int .i64 m.hi, .int .i64 m.rate, .int .i64 m.ga, .int .i64 m.la, .int .i64 m.de, .int .i64 cp]) := hid (Blk.below (Blk.alloc (Blk.alloc (Blk.at_new _ (by simp)) _) _) hb (by simp <;> omega))
    have X1 : Hid (Blk w1 (w.heap.size + 1) 60 #[.int .i64 x, .int .i64 y]) := hid (Blk.below (Blk.alloc (Blk.at_new _ (by simp)) _) hb (by simp <;> omega))
    have S1 : Hid (Blk w1 (w.heap.size + 1 + 1) 76 #[.int .i64 0, .int .i64 0, .int .i64 0, .int .i64 0]) := hid (Blk.below (Blk.at_new _ (by simp)) hb (by simp <;> omega))
    have B1 : Hid (Below w.heap.size w w1) := hid (Below.trans ((((Below.refl _ _).alloc (by simp <;> omega) _).alloc (by simp <;> omega) _).alloc (by simp <;> omega) _) (hb.mono (by simp <;> omega)))
    clear hb
    have cW_0 : ∀ (i : Nat), w1.cell? ⟨w.heap.size, i, none⟩ = (#[.int .i64 b.kp, .int .i64 b.ki, .int .i64 b.sh, .int .i64 b.lo, .int .i64 b.hi, .int .i64 b.rate, .int .i64 b.ga, .int .i64 b.la, .int .i64 b.de, .int .i64 m.kp, .int .i64 m.ki, .int .i64 m.sh, .int .i64 m.lo, .int .i64 m.hi, .int .i64 m.rate, .int .i64 m.ga, .int .i64 m.la, .int .i64 m.de, .int .i64 cp] : Array Value)[i]? := Blk.cell W1.out
    have cX_0 : ∀ (i : Nat), w1.cell? ⟨w.heap.size + 1, i, none⟩ = (#[.int .i64 x, .int .i64 y] : Array Value)[i]? := Blk.cell X1.out
    have cS_0 : ∀ (i : Nat), w1.cell? ⟨w.heap.size + 1 + 1, i, none⟩ = (#[.int .i64 0, .int .i64 0, .int .i64 0, .int .i64 0] : Array Value)[i]? := Blk.cell S1.out
    have hz : (chkW b m cp != 0) = true := by simpa using hc
    have fS := S1.out.frozen
    go_wp2
    have K := hid ((((S1.out.set 0 (.int .i64 0)).set 1 (.int .i64 0)).set 2 (.int .i64 0)).set 3 (.int .i64 0))
    have k0 := K.out.cell 0
    have k1 := K.out.cell 1
    have k2 := K.out.cell 2
    have k3 := K.out.cell 3
    simp at k0 k1 k2 k3
    refine bodyPost_ret (v := .tuple #[.agg #[.int .i64 0, .int .i64 0, .int .i64 0, .int .i64 0], .int .i64 (chkW b m cp)]) (by simp [results, Try.results35, go_sem, k0, k1, k2, k3]) rfl ?_
    exact restw_no (by rw [if_pos RN.out]) (fun h => absurd h RN.out) (by repeat (first | with_reducible exact B1.out | with_reducible refine Below.setCell ?_ (by simp <;> omega) _))
  have HC := hid hc
  obtain ⟨hb1, hm1, _⟩ := chkW_ok hc
  have HB := hid hb1
  have HM := hid hm1
  clear hc hb1 hm1
  by_cases hs : absB x 16777216 = true ∧ absB y 16777216 = true
  rotate_left
  · have HN := hid hs
    have hq : absB x 16777216 = false ∨ (absB x 16777216 = true ∧ absB y 16777216 = false) := by
      cases h1 : absB x 16777216
      · exact .inl rfl
      · cases h2 : absB y 16777216
        · exact .inr ⟨rfl, rfl⟩
        · exact absurd ⟨h1, h2⟩ hs
    clear hs
    rcases hq with hq | ⟨hq1, hq2⟩
    all_goals
      go_enter Try.func35, Try.ntmps35
      go_wp2_with (refine wpList_load_blk (t := 29) (Blk.alloc (Blk.alloc (Blk.at_new w rfl) _) _) Try.underlying29 rfl (by kernel_rfl) rfl rfl rfl ?_)
      refine (rwcheck_any b m cp _).mono ?_
      rintro e w1 ⟨rfl, hb⟩
      have W1 : Hid (Blk w1 (w.heap.size) 29 #[.int .i64 b.kp, .int .i64 b.ki, .int .i64 b.sh, .int .i64 b.lo, .int .i64 b.hi, .int .i64 b.rate, .int .i64 b.ga, .int .i64 b.la, .int .i64 b.de, .int .i64 m.kp, .int .i64 m.ki, .int .i64 m.sh, .int .i64 m.lo, .int .i64 m.hi, .int .i64 m.rate, .int .i64 m.ga, .int .i64 m.la, .int .i64 m.de, .int .i64 cp]) := hid (Blk.below (Blk.alloc (Blk.alloc (Blk.at_new _ (by simp)) _) _) hb (by simp <;> omega))
      have X1 : Hid (Blk w1 (w.heap.size + 1) 60 #[.int .i64 x, .int .i64 y]) := hid (Blk.below (Blk.alloc (Blk.at_new _ (by simp)) _) hb (by simp <;> omega))
      have S1 : Hid (Blk w1 (w.heap.size + 1 + 1) 76 #[.int .i64 0, .int .i64 0, .int .i64 0, .int .i64 0]) := hid (Blk.below (Blk.at_new _ (by simp)) hb (by simp <;> omega))
      have B1 : Hid (Below w.heap.size w w1) := hid (Below.trans ((((Below.refl _ _).alloc (by simp <;> omega) _).alloc (by simp <;> omega) _).alloc (by simp <;> omega) _) (hb.mono (by simp <;> omega)))
      clear hb
      have cW_0 : ∀ (i : Nat), w1.cell? ⟨w.heap.size, i, none⟩ = (#[.int .i64 b.kp, .int .i64 b.ki, .int .i64 b.sh, .int .i64 b.lo, .int .i64 b.hi, .int .i64 b.rate, .int .i64 b.ga, .int .i64 b.la, .int .i64 b.de, .int .i64 m.kp, .int .i64 m.ki, .int .i64 m.sh, .int .i64 m.lo, .int .i64 m.hi, .int .i64 m.rate, .int .i64 m.ga, .int .i64 m.la, .int .i64 m.de, .int .i64 cp] : Array Value)[i]? := Blk.cell W1.out
      have cX_0 : ∀ (i : Nat), w1.cell? ⟨w.heap.size + 1, i, none⟩ = (#[.int .i64 x, .int .i64 y] : Array Value)[i]? := Blk.cell X1.out
      have cS_0 : ∀ (i : Nat), w1.cell? ⟨w.heap.size + 1 + 1, i, none⟩ = (#[.int .i64 0, .int .i64 0, .int .i64 0, .int .i64 0] : Array Value)[i]? := Blk.cell S1.out
      rw [HC.out]
      have fS := S1.out.frozen
      go_wp2_with (go_at_call 50; refine (rwsignal_any _ _).mono ?_; rintro e v9 ⟨rfl, rfl⟩)
      have K := hid ((((S1.out.set 0 (.int .i64 0)).set 1 (.int .i64 0)).set 2 (.int .i64 0)).set 3 (.int .i64 0))
      have k0 := K.out.cell 0
      have k1 := K.out.cell 1
      have k2 := K.out.cell 2
      have k3 := K.out.cell 3
      simp at k0 k1 k2 k3
      refine bodyPost_ret (v := .tuple #[.agg #[.int .i64 0, .int .i64 0, .int .i64 0, .int .i64 0], .int .i64 1]) (by simp [results, Try.results35, go_sem, k0, k1, k2, k3]) rfl ?_
      exact restw_no (by rw [if_neg (by rw [HC.out]; decide)]) (fun _ => HN.out) (by repeat (first | with_reducible exact B1.out | with_reducible refine Below.setCell ?_ (by simp <;> omega) _))
  have HS := hid hs
  have q1 : absB x 16777216 = true := hs.1
  have q2 : absB y 16777216 = true := hs.2
  clear hs
  go_enter Try.func35, Try.ntmps35
  go_wp2_with (refine wpList_load_blk (t := 29) (Blk.alloc (Blk.alloc (Blk.at_new w rfl) _) _) Try.underlying29 rfl (by kernel_rfl) rfl rfl rfl ?_)
  refine (rwcheck_any b m cp _).mono ?_
  rintro e w1 ⟨rfl, hb⟩
  have W1 : Hid (Blk w1 (w.heap.size) 29 #[.int .i64 b.kp, .int .i64 b.ki, .int .i64 b.sh, .int .i64 b.lo, .int .i64 b.hi, .int .i64 b.rate, .int .i64 b.ga, .int .i64 b.la, .int .i64 b.de, .int .i64 m.kp, .int .i64 m.ki, .int .i64 m.sh, .int .i64 m.lo, .int .i64 m.hi, .int .i64 m.rate, .int .i64 m.ga, .int .i64 m.la, .int .i64 m.de, .int .i64 cp]) := hid (Blk.below (Blk.alloc (Blk.alloc (Blk.at_new _ (by simp)) _) _) hb (by simp <;> omega))
  have X1 : Hid (Blk w1 (w.heap.size + 1) 60 #[.int .i64 x, .int .i64 y]) := hid (Blk.below (Blk.alloc (Blk.at_new _ (by simp)) _) hb (by simp <;> omega))
  have S1 : Hid (Blk w1 (w.heap.size + 1 + 1) 76 #[.int .i64 0, .int .i64 0, .int .i64 0, .int .i64 0]) := hid (Blk.below (Blk.at_new _ (by simp)) hb (by simp <;> omega))
  have B1 : Hid (Below w.heap.size w w1) := hid (Below.trans ((((Below.refl _ _).alloc (by simp <;> omega) _).alloc (by simp <;> omega) _).alloc (by simp <;> omega) _) (hb.mono (by simp <;> omega)))
  clear hb
  have cW_0 : ∀ (i : Nat), w1.cell? ⟨w.heap.size, i, none⟩ = (#[.int .i64 b.kp, .int .i64 b.ki, .int .i64 b.sh, .int .i64 b.lo, .int .i64 b.hi, .int .i64 b.rate, .int .i64 b.ga, .int .i64 b.la, .int .i64 b.de, .int .i64 m.kp, .int .i64 m.ki, .int .i64 m.sh, .int .i64 m.lo, .int .i64 m.hi, .int .i64 m.rate, .int .i64 m.ga, .int .i64 m.la, .int .i64 m.de, .int .i64 cp] : Array Value)[i]? := Blk.cell W1.out
  have cX_0 : ∀ (i : Nat), w1.cell? ⟨w.heap.size + 1, i, none⟩ = (#[.int .i64 x, .int .i64 y] : Array Value)[i]? := Blk.cell X1.out
  have cS_0 : ∀ (i : Nat), w1.cell? ⟨w.heap.size + 1 + 1, i, none⟩ = (#[.int .i64 0, .int .i64 0, .int .i64 0, .int .i64 0] : Array Value)[i]? := Blk.cell S1.out
  rw [HC.out]
  go_wp2_with (go_at_call 50; refine (rwsignal_any _ _).mono ?_; rintro e v9 ⟨rfl, rfl⟩)
  clear cW_0 cX_0 cS_0
  have l1 := W1.out.lt
  have l2 := X1.out.lt
  have l3 := S1.out.lt
  go_cut [8, 9] (fun v8 v9 wx => ∃ g1 g2 : Nat, v8 = .pointer (some ⟨g1, 0, none⟩) ∧ v9 = .pointer (some ⟨g2, 0, none⟩) ∧ g1 ≠ g2 ∧ w1.heap.size + 1 ≤ g1 ∧ w1.heap.size + 1 ≤ g2 ∧ Blk wx g1 27 #[.int .i64 b.kp, .int .i64 b.ki, .int .i64 b.sh, .int .i64 b.lo, .int .i64 b.hi, .int .i64 b.rate, .int .i64 b.ga, .int .i64 b.la, .int .i64 b.de] ∧ Blk wx g2 27 #[.int .i64 m.kp, .int .i64 m.ki, .int .i64 m.sh, .int .i64 m.lo, .int .i64 m.hi, .int .i64 m.rate, .int .i64 m.ga, .int .i64 m.la, .int .i64 m.de] ∧ Blk wx w1.heap.size 76 #[.int .i64 0, .int .i64 0, .int .i64 0, .int .i64 0] ∧ Below w1.heap.size w1 wx)
  case first =>
    refine wp_region_hand (fun w' => Blk w' w.heap.size 29 #[.int .i64 b.kp, .int .i64 b.ki, .int .i64 b.sh, .int .i64 b.lo, .int .i64 b.hi, .int .i64 b.rate, .int .i64 b.ga, .int .i64 b.la, .int .i64 b.de, .int .i64 m.kp, .int .i64 m.ki, .int .i64 m.sh, .int .i64 m.lo, .int .i64 m.hi, .int .i64 m.rate, .int .i64 m.ga, .int .i64 m.la, .int .i64 m.de, .int .i64 cp]) (by kernel_rfl) ?_
    simp only [List.length_cons, List.length_nil, Nat.zero_add, Nat.reduceAdd]
    have hS : Blk (w1.alloc (.cells #[.int .i64 0, .int .i64 0, .int .i64 0, .int .i64 0] 76)).drew w.heap.size 29 #[.int .i64 b.kp, .int .i64 b.ki, .int .i64 b.sh, .int .i64 b.lo, .int .i64 b.hi, .int .i64 b.rate, .int .i64 b.ga, .int .i64 b.la, .int .i64 b.de, .int .i64 m.kp, .int .i64 m.ki, .int .i64 m.sh, .int .i64 m.lo, .int .i64 m.hi, .int .i64 m.rate, .int .i64 m.ga, .int .i64 m.la, .int .i64 m.de, .int .i64 cp] := Blk.drew (Blk.alloc W1.out _)
    refine take_at (i := 0) (v := ?_) rfl rfl (by kernel_rfl) (by kernel_rfl) (by kernel_rfl) (fun _ _ _ h => h) (Or.inl ⟨by rfl, ?_⟩) hS ?_
    rotate_left
    · intro w hSw; (try dsimp only at hSw); go_simp; try with_reducible rfl
    try simp only [List.setIfInBounds_toArray, List.set_cons_zero, List.set_cons_succ]
    refine take_at (i := 1) (v := .agg #[.int .i64 b.kp, .int .i64 b.ki, .int .i64 b.sh, .int .i64 b.lo, .int .i64 b.hi, .int .i64 b.rate, .int .i64 b.ga, .int .i64 b.la, .int .i64 b.de]) rfl rfl (by kernel_rfl) (by kernel_rfl) (by kernel_rfl) (fun _ _ _ h => h) (Or.inl ⟨by rfl, fun wi hSw => exec_loads (p := .pointer (some ⟨w.heap.size, 0, none⟩)) rfl rfl (load_part hSw (part_b b m cp) Try.underlying27 rfl (by kernel_rfl))⟩) hS ?_
    try simp only [List.setIfInBounds_toArray, List.set_cons_zero, List.set_cons_succ]
    refine take_at (i := 2) (v := ?_) rfl rfl (by kernel_rfl) (by kernel_rfl) (by kernel_rfl) (fun _ _ _ h => h) (Or.inl ⟨by rfl, ?_⟩) hS ?_
    rotate_left
    · intro w hSw; (try dsimp only at hSw); go_simp; try with_reducible rfl
    try simp only [List.setIfInBounds_toArray, List.set_cons_zero, List.set_cons_succ]
    refine take_at (i := 3) (v := .agg #[.int .i64 m.kp, .int .i64 m.ki, .int .i64 m.sh, .int .i64 m.lo, .int .i64 m.hi, .int .i64 m.rate, .int .i64 m.ga, .int .i64 m.la, .int .i64 m.de]) rfl rfl (by kernel_rfl) (by kernel_rfl) (by kernel_rfl) (fun _ _ _ h => h) (Or.inl ⟨by rfl, fun wi hSw => exec_loads (p := .pointer (some ⟨w.heap.size, 9, none⟩)) rfl rfl (load_part hSw (part_m b m cp) Try.underlying27 rfl (by kernel_rfl))⟩) hS ?_
    try simp only [List.setIfInBounds_toArray, List.set_cons_zero, List.set_cons_succ]
    refine wpAnyH_ready (rs := [4, 5]) (by kernel_rfl) (by simp) ?_
    refine AllReadyH.cons rfl (fun K hK => ?_) (AllReadyH.cons rfl (fun K hK => ?_) AllReadyH.nil)
    · go_simp
      refine hK.out _ _ (by repeat (first | with_reducible exact W1.out | with_reducible refine Blk.drew ?_ | with_reducible refine Blk.alloc ?_ _ | (with_reducible refine Blk.rowOther ?_ ?_ _; rotate_left; · (first | (simp; done) | (simp; omega) | omega)))) (fun hS => ?_)
      clear hK K
      try simp only [Act.put, List.setIfInBounds_toArray, List.set_cons_zero, List.set_cons_succ]
      refine wpAnyH_ready (rs := [5]) (by kernel_rfl) (by simp) ?_
      refine AllReadyH.cons rfl (fun K hK => ?_) AllReadyH.nil
      go_simp
      refine hK.out _ _ (by repeat (first | with_reducible exact W1.out | with_reducible refine Blk.drew ?_ | with_reducible refine Blk.alloc ?_ _ | (with_reducible refine Blk.rowOther ?_ ?_ _; rotate_left; · (first | (simp; done) | (simp; omega) | omega)))) (fun hS => ?_)
      clear hK K
      try simp only [Act.put, List.setIfInBounds_toArray, List.set_cons_zero, List.set_cons_succ]
      refine wpAnyH_ready (rs := [6]) (by kernel_rfl) (by simp) ?_
      refine AllReadyH.cons rfl (fun K hK => ?_) AllReadyH.nil
      refine step_store_blk (b := w1.heap.size + 1) (t := 27) (e := 27) (cs0 := #[.int .i64 0, .int .i64 0, .int .i64 0, .int .i64 0, .int .i64 0, .int .i64 0, .int .i64 0, .int .i64 0, .int .i64 0]) (cs := #[.int .i64 b.kp, .int .i64 b.ki, .int .i64 b.sh, .int .i64 b.lo, .int .i64 b.hi, .int .i64 b.rate, .int .i64 b.ga, .int .i64 b.la, .int .i64 b.de]) (by repeat (first | (with_reducible refine Blk.at_new _ ?_; (simp; done)) | with_reducible refine Blk.drew ?_ | with_reducible refine Blk.alloc ?_ _)) (by kernel_rfl) rfl (by simp [Value.oneCell']) rfl rfl rfl rfl ?_
      refine hK.out _ _ (by repeat (first | with_reducible exact W1.out | with_reducible refine Blk.drew ?_ | with_reducible refine Blk.alloc ?_ _ | (with_reducible refine Blk.rowOther ?_ ?_ _; rotate_left; · (first | (simp; done) | (simp; omega) | omega)))) (fun hS => ?_)
      clear hK K
      try simp only [Act.put, List.setIfInBounds_toArray, List.set_cons_zero, List.set_cons_succ]
      refine wpAnyH_ready (rs := [7]) (by kernel_rfl) (by simp) ?_
      refine AllReadyH.cons rfl (fun K hK => ?_) AllReadyH.nil
      refine step_store_blk (b := w1.heap.size + 1 + 1) (t := 27) (e := 27) (cs0 := #[.int .i64 0, .int .i64 0, .int .i64 0, .int .i64 0, .int .i64 0, .int .i64 0, .int .i64 0, .int .i64 0, .int .i64 0]) (cs := #[.int .i64 m.kp, .int .i64 m.ki, .int .i64 m.sh, .int .i64 m.lo, .int .i64 m.hi, .int .i64 m.rate, .int .i64 m.ga, .int .i64 m.la, .int .i64 m.de]) (by repeat (first | (with_reducible refine Blk.at_new _ ?_; (simp; done)) | with_reducible refine Blk.drew ?_ | with_reducible refine Blk.alloc ?_ _ | (with_reducible refine Blk.rowOther ?_ ?_ _; rotate_left; · (first | (simp; done) | (simp; omega) | omega)))) (by kernel_rfl) rfl (by simp [Value.oneCell']) rfl rfl rfl rfl ?_
      refine hK.out _ _ (by repeat (first | with_reducible exact W1.out | with_reducible refine Blk.drew ?_ | with_reducible refine Blk.alloc ?_ _ | (with_reducible refine Blk.rowOther ?_ ?_ _; rotate_left; · (first | (simp; done) | (simp; omega) | omega)))) (fun hS => ?_)
      clear hK K
      try simp only [Act.put, List.setIfInBounds_toArray, List.set_cons_zero, List.set_cons_succ]
      refine wpAnyH_done (by kernel_rfl) ?_ _
      simp only [Sure, Exit.then]
      clear hS
      go_wp2_with fail
      go_meet
      exact ⟨w1.heap.size + 1, w1.heap.size + 1 + 1, rfl, rfl, by omega, by omega, by omega, (by repeat (first | (with_reducible refine Blk.at_new _ ?_; (simp; done)) | with_reducible refine Blk.row (cs0 := #[.int .i64 0, .int .i64 0, .int .i64 0, .int .i64 0, .int .i64 0, .int .i64 0, .int .i64 0, .int .i64 0, .int .i64 0]) ?_ _ | (with_reducible refine Blk.rowOther ?_ ?_ _; rotate_left; · (first | (simp; done) | (simp; omega) | omega)) | with_reducible refine Blk.drew ?_ | with_reducible refine Blk.alloc ?_ _)), (by repeat (first | (with_reducible refine Blk.at_new _ ?_; (simp; done)) | with_reducible refine Blk.row (cs0 := #[.int .i64 0, .int .i64 0, .int .i64 0, .int .i64 0, .int .i64 0, .int .i64 0, .int .i64 0, .int .i64 0, .int .i64 0]) ?_ _ | (with_reducible refine Blk.rowOther ?_ ?_ _; rotate_left; · (first | (simp; done) | (simp; omega) | omega)) | with_reducible refine Blk.drew ?_ | with_reducible refine Blk.alloc ?_ _)), (by repeat (first | (with_reducible refine Blk.at_new _ ?_; (simp; done)) | (with_reducible refine Blk.rowOther ?_ ?_ _; rotate_left; · (first | (simp; done) | (simp; omega) | omega)) | with_reducible refine Blk.drew ?_ | with_reducible refine Blk.alloc ?_ _)), (by repeat (first | with_reducible exact Below.refl _ _ | (with_reducible refine Below.row ?_ ?_ _; rotate_left; · (first | (simp; done) | (simp; omega) | omega)) | with_reducible refine Below.drew ?_ | (with_reducible refine Below.alloc ?_ ?_ _; rotate_left; · (first | (simp; done) | (simp; omega) | omega))))⟩
    · go_simp
      refine hK.out _ _ (by repeat (first | with_reducible exact W1.out | with_reducible refine Blk.drew ?_ | with_reducible refine Blk.alloc ?_ _ | (with_reducible refine Blk.rowOther ?_ ?_ _; rotate_left; · (first | (simp; done) | (simp; omega) | omega)))) (fun hS => ?_)
      clear hK K
      try simp only [Act.put, List.setIfInBounds_toArray, List.set_cons_zero, List.set_cons_succ]
      refine wpAnyH_ready (rs := [4]) (by kernel_rfl) (by simp) ?_
      refine AllReadyH.cons rfl (fun K hK => ?_) AllReadyH.nil
      go_simp
      refine hK.out _ _ (by repeat (first | with_reducible exact W1.out | with_reducible refine Blk.drew ?_ | with_reducible refine Blk.alloc ?_ _ | (with_reducible refine Blk.rowOther ?_ ?_ _; rotate_left; · (first | (simp; done) | (simp; omega) | omega)))) (fun hS => ?_)
      clear hK K
      try simp only [Act.put, List.setIfInBounds_toArray, List.set_cons_zero, List.set_cons_succ]
      refine wpAnyH_ready (rs := [6]) (by kernel_rfl) (by simp) ?_
      refine AllReadyH.cons rfl (fun K hK => ?_) AllReadyH.nil
      refine step_store_blk (b := w1.heap.size + 1 + 1) (t := 27) (e := 27) (cs0 := #[.int .i64 0, .int .i64 0, .int .i64 0, .int .i64 0, .int .i64 0, .int .i64 0, .int .i64 0, .int .i64 0, .int .i64 0]) (cs := #[.int .i64 b.kp, .int .i64 b.ki, .int .i64 b.sh, .int .i64 b.lo, .int .i64 b.hi, .int .i64 b.rate, .int .i64 b.ga, .int .i64 b.la, .int .i64 b.de]) (by repeat (first | (with_reducible refine Blk.at_new _ ?_; (simp; done)) | with_reducible refine Blk.drew ?_ | with_reducible refine Blk.alloc ?_ _)) (by kernel_rfl) rfl (by simp [Value.oneCell']) rfl rfl rfl rfl ?_
      refine hK.out _ _ (by repeat (first | with_reducible exact W1.out | with_reducible refine Blk.drew ?_ | with_reducible refine Blk.alloc ?_ _ | (with_reducible refine Blk.rowOther ?_ ?_ _; rotate_left; · (first | (simp; done) | (simp; omega) | omega)))) (fun hS => ?_)
      clear hK K
      try simp only [Act.put, List.setIfInBounds_toArray, List.set_cons_zero, List.set_cons_succ]
      refine wpAnyH_ready (rs := [7]) (by kernel_rfl) (by simp) ?_
      refine AllReadyH.cons rfl (fun K hK => ?_) AllReadyH.nil
      refine step_store_blk (b := w1.heap.size + 1) (t := 27) (e := 27) (cs0 := #[.int .i64 0, .int .i64 0, .int .i64 0, .int .i64 0, .int .i64 0, .int .i64 0, .int .i64 0, .int .i64 0, .int .i64 0]) (cs := #[.int .i64 m.kp, .int .i64 m.ki, .int .i64 m.sh, .int .i64 m.lo, .int .i64 m.hi, .int .i64 m.rate, .int .i64 m.ga, .int .i64 m.la, .int .i64 m.de]) (by repeat (first | (with_reducible refine Blk.at_new _ ?_; (simp; done)) | with_reducible refine Blk.drew ?_ | with_reducible refine Blk.alloc ?_ _ | (with_reducible refine Blk.rowOther ?_ ?_ _; rotate_left; · (first | (simp; done) | (simp; omega) | omega)))) (by kernel_rfl) rfl (by simp [Value.oneCell']) rfl rfl rfl rfl ?_
      refine hK.out _ _ (by repeat (first | with_reducible exact W1.out | with_reducible refine Blk.drew ?_ | with_reducible refine Blk.alloc ?_ _ | (with_reducible refine Blk.rowOther ?_ ?_ _; rotate_left; · (first | (simp; done) | (simp; omega) | omega)))) (fun hS => ?_)
      clear hK K
      try simp only [Act.put, List.setIfInBounds_toArray, List.set_cons_zero, List.set_cons_succ]
      refine wpAnyH_done (by kernel_rfl) ?_ _
      simp only [Sure, Exit.then]
      clear hS
      go_wp2_with fail
      go_meet
      exact ⟨w1.heap.size + 1 + 1, w1.heap.size + 1, rfl, rfl, by omega, by omega, by omega, (by repeat (first | (with_reducible refine Blk.at_new _ ?_; (simp; done)) | with_reducible refine Blk.row (cs0 := #[.int .i64 0, .int .i64 0, .int .i64 0, .int .i64 0, .int .i64 0, .int .i64 0, .int .i64 0, .int .i64 0, .int .i64 0]) ?_ _ | (with_reducible refine Blk.rowOther ?_ ?_ _; rotate_left; · (first | (simp; done) | (simp; omega) | omega)) | with_reducible refine Blk.drew ?_ | with_reducible refine Blk.alloc ?_ _)), (by repeat (first | (with_reducible refine Blk.at_new _ ?_; (simp; done)) | with_reducible refine Blk.row (cs0 := #[.int .i64 0, .int .i64 0, .int .i64 0, .int .i64 0, .int .i64 0, .int .i64 0, .int .i64 0, .int .i64 0, .int .i64 0]) ?_ _ | (with_reducible refine Blk.rowOther ?_ ?_ _; rotate_left; · (first | (simp; done) | (simp; omega) | omega)) | with_reducible refine Blk.drew ?_ | with_reducible refine Blk.alloc ?_ _)), (by repeat (first | (with_reducible refine Blk.at_new _ ?_; (simp; done)) | (with_reducible refine Blk.rowOther ?_ ?_ _; rotate_left; · (first | (simp; done) | (simp; omega) | omega)) | with_reducible refine Blk.drew ?_ | with_reducible refine Blk.alloc ?_ _)), (by repeat (first | with_reducible exact Below.refl _ _ | (with_reducible refine Below.row ?_ ?_ _; rotate_left; · (first | (simp; done) | (simp; omega) | omega)) | with_reducible refine Below.drew ?_ | (with_reducible refine Below.alloc ?_ ?_ _; rotate_left; · (first | (simp; done) | (simp; omega) | omega))))⟩
  case rest =>
    obtain ⟨g1, g2, rfl, rfl, hne, hg1, hg2, hC1, hC2, hT, hb⟩ := hcut
    have X2 := hid (Blk.below X1.out hb X1.out.lt)
    have S2 := hid (Blk.below S1.out hb S1.out.lt)
    have B2 := hid (B1.out.trans (hb.mono B1.out.size))
    have C2 := hid hC1
    have D2 := hid hC2
    have T2 := hid hT
    clear hC1 hC2 hT hb
    have cX := X2.out.cell
    have cC := C2.out.cell
    have cD := D2.out.cell
    have cT := T2.out.cell
    have fT := T2.out.frozen
    go_wp2_with fail
    refine (rprest_ok b x _ HB.out HS.out.1).mono ?_
    rintro e w3 ⟨nb, rfl, hn, hnb, hb⟩
    have HNB := hid hn
    clear hn
    have X3 := hid (Blk.below X2.out hb (Blk.lt X2.out))
    have S3 := hid (Blk.below S2.out hb (Blk.lt S2.out))
    have C3 := hid (Blk.below C2.out hb (Blk.lt C2.out))
    have D3 := hid (Blk.below D2.out hb (Blk.lt D2.out))
    have T3 := hid (Blk.below T2.out hb (Blk.lt T2.out))
    have B3 := hid (B2.out.trans (hb.mono (by simpa using B2.out.size)))
    clear hb
    clear cX cC cD cT fT
    have cX := X3.out.cell
    have cC := C3.out.cell
    have cD := D3.out.cell
    have cT := T3.out.cell
    have fT := T3.out.frozen
    have dX := fun (u : Value) => (X3.out.other (a := ⟨w1.heap.size, 0, none⟩) (by show _ ≠ w1.heap.size; omega) u).cell
    have dC := fun (u : Value) => (C3.out.other (a := ⟨w1.heap.size, 0, none⟩) (by show _ ≠ w1.heap.size; omega) u).cell
    have dD := fun (u : Value) => (D3.out.other (a := ⟨w1.heap.size, 0, none⟩) (by show _ ≠ w1.heap.size; omega) u).cell
    have dT := fun (u : Value) => (T3.out.set 0 u).cell
    simp only [List.setIfInBounds_toArray, List.set_cons_zero, List.set_cons_succ] at dT
    have gT := fun (u : Value) => (T3.out.set 0 u).frozen
    go_wp2_with fail
    refine (rprest_ok m y _ HM.out HS.out.2).mono ?_
    rintro e w4 ⟨nm, rfl, hn, hnm, hb⟩
    have HNM := hid hn
    clear hn
    have X4 := hid (Blk.below (X3.out.other (a := ⟨w1.heap.size, 0, none⟩) (by show _ ≠ w1.heap.size; omega) (.int .i64 nb)) hb (Blk.lt (X3.out.other (a := ⟨w1.heap.size, 0, none⟩) (by show _ ≠ w1.heap.size; omega) (.int .i64 nb))))
    have S4 := hid (Blk.below (S3.out.other (a := ⟨w1.heap.size, 0, none⟩) (by show _ ≠ w1.heap.size; omega) (.int .i64 nb)) hb (Blk.lt (S3.out.other (a := ⟨w1.heap.size, 0, none⟩) (by show _ ≠ w1.heap.size; omega) (.int .i64 nb))))
    have C4 := hid (Blk.below (C3.out.other (a := ⟨w1.heap.size, 0, none⟩) (by show _ ≠ w1.heap.size; omega) (.int .i64 nb)) hb (Blk.lt (C3.out.other (a := ⟨w1.heap.size, 0, none⟩) (by show _ ≠ w1.heap.size; omega) (.int .i64 nb))))
    have D4 := hid (Blk.below (D3.out.other (a := ⟨w1.heap.size, 0, none⟩) (by show _ ≠ w1.heap.size; omega) (.int .i64 nb)) hb (Blk.lt (D3.out.other (a := ⟨w1.heap.size, 0, none⟩) (by show _ ≠ w1.heap.size; omega) (.int .i64 nb))))
    have T4 := hid (Blk.below (T3.out.set 0 (.int .i64 nb)) hb (Blk.lt (T3.out.set 0 (.int .i64 nb))))
    have B4 := hid ((B3.out.setCell (show w.heap.size ≤ (⟨w1.heap.size, 0, none⟩ : Addr).block from B1.out.size) (.int .i64 nb)).trans (hb.mono (by simpa using B3.out.size)))
    clear hb
    clear cX cC cD cT fT dX dC dD dT gT
    have cX := X4.out.cell
    have cC := C4.out.cell
    have cD := D4.out.cell
    have cT := T4.out.cell
    have fT := T4.out.frozen
    have dX := fun (u : Value) => (X4.out.other (a := ⟨w1.heap.size, 1, none⟩) (by show _ ≠ w1.heap.size; omega) u).cell
    have dC := fun (u : Value) => (C4.out.other (a := ⟨w1.heap.size, 1, none⟩) (by show _ ≠ w1.heap.size; omega) u).cell
    have dD := fun (u : Value) => (D4.out.other (a := ⟨w1.heap.size, 1, none⟩) (by show _ ≠ w1.heap.size; omega) u).cell
    have dT := fun (u : Value) => (T4.out.set 1 u).cell
    simp only [List.setIfInBounds_toArray, List.set_cons_zero, List.set_cons_succ] at dT
    have gT := fun (u : Value) => (T4.out.set 1 u).frozen
    go_wp2_with fail
    refine (rptgt_ok b nb _ HB.out hnb).mono ?_
    rintro e w5 ⟨rfl, hb⟩
    have X5 := hid (Blk.below (X4.out.other (a := ⟨w1.heap.size, 1, none⟩) (by show _ ≠ w1.heap.size; omega) (.int .i64 nm)) hb (Blk.lt (X4.out.other (a := ⟨w1.heap.size, 1, none⟩) (by show _ ≠ w1.heap.size; omega) (.int .i64 nm))))
    have S5 := hid (Blk.below (S4.out.other (a := ⟨w1.heap.size, 1, none⟩) (by show _ ≠ w1.heap.size; omega) (.int .i64 nm)) hb (Blk.lt (S4.out.other (a := ⟨w1.heap.size, 1, none⟩) (by show _ ≠ w1.heap.size; omega) (.int .i64 nm))))
    have C5 := hid (Blk.below (C4.out.other (a := ⟨w1.heap.size, 1, none⟩) (by show _ ≠ w1.heap.size; omega) (.int .i64 nm)) hb (Blk.lt (C4.out.other (a := ⟨w1.heap.size, 1, none⟩) (by show _ ≠ w1.heap.size; omega) (.int .i64 nm))))
    have D5 := hid (Blk.below (D4.out.other (a := ⟨w1.heap.size, 1, none⟩) (by show _ ≠ w1.heap.size; omega) (.int .i64 nm)) hb (Blk.lt (D4.out.other (a := ⟨w1.heap.size, 1, none⟩) (by show _ ≠ w1.heap.size; omega) (.int .i64 nm))))
    have T5 := hid (Blk.below (T4.out.set 1 (.int .i64 nm)) hb (Blk.lt (T4.out.set 1 (.int .i64 nm))))
    have B5 := hid ((B4.out.setCell (show w.heap.size ≤ (⟨w1.heap.size, 1, none⟩ : Addr).block from B1.out.size) (.int .i64 nm)).trans (hb.mono (by simpa using B4.out.size)))
    clear hb
    clear cX cC cD cT fT dX dC dD dT gT
    have cX := X5.out.cell
    have cC := C5.out.cell
    have cD := D5.out.cell
    have cT := T5.out.cell
    have fT := T5.out.frozen
    have dX := fun (u : Value) => (X5.out.other (a := ⟨w1.heap.size, 2, none⟩) (by show _ ≠ w1.heap.size; omega) u).cell
    have dC := fun (u : Value) => (C5.out.other (a := ⟨w1.heap.size, 2, none⟩) (by show _ ≠ w1.heap.size; omega) u).cell
    have dD := fun (u : Value) => (D5.out.other (a := ⟨w1.heap.size, 2, none⟩) (by show _ ≠ w1.heap.size; omega) u).cell
    have dT := fun (u : Value) => (T5.out.set 2 u).cell
    simp only [List.setIfInBounds_toArray, List.set_cons_zero, List.set_cons_succ] at dT
    have gT := fun (u : Value) => (T5.out.set 2 u).frozen
    go_wp2_with fail
    refine (rptgt_ok m nm _ HM.out hnm).mono ?_
    rintro e w6 ⟨rfl, hb⟩
    have X6 := hid (Blk.below (X5.out.other (a := ⟨w1.heap.size, 2, none⟩) (by show _ ≠ w1.heap.size; omega) (.int .i64 (tgt b.ga nb))) hb (Blk.lt (X5.out.other (a := ⟨w1.heap.size, 2, none⟩) (by show _ ≠ w1.heap.size; omega) (.int .i64 (tgt b.ga nb)))))
    have S6 := hid (Blk.below (S5.out.other (a := ⟨w1.heap.size, 2, none⟩) (by show _ ≠ w1.heap.size; omega) (.int .i64 (tgt b.ga nb))) hb (Blk.lt (S5.out.other (a := ⟨w1.heap.size, 2, none⟩) (by show _ ≠ w1.heap.size; omega) (.int .i64 (tgt b.ga nb)))))
    have C6 := hid (Blk.below (C5.out.other (a := ⟨w1.heap.size, 2, none⟩) (by show _ ≠ w1.heap.size; omega) (.int .i64 (tgt b.ga nb))) hb (Blk.lt (C5.out.other (a := ⟨w1.heap.size, 2, none⟩) (by show _ ≠ w1.heap.size; omega) (.int .i64 (tgt b.ga nb)))))
    have D6 := hid (Blk.below (D5.out.other (a := ⟨w1.heap.size, 2, none⟩) (by show _ ≠ w1.heap.size; omega) (.int .i64 (tgt b.ga nb))) hb (Blk.lt (D5.out.other (a := ⟨w1.heap.size, 2, none⟩) (by show _ ≠ w1.heap.size; omega) (.int .i64 (tgt b.ga nb)))))
    have T6 := hid (Blk.below (T5.out.set 2 (.int .i64 (tgt b.ga nb))) hb (Blk.lt (T5.out.set 2 (.int .i64 (tgt b.ga nb)))))
    have B6 := hid ((B5.out.setCell (show w.heap.size ≤ (⟨w1.heap.size, 2, none⟩ : Addr).block from B1.out.size) (.int .i64 (tgt b.ga nb))).trans (hb.mono (by simpa using B5.out.size)))
    clear hb
    clear cX cC cD cT fT dX dC dD dT gT
    have cX := X6.out.cell
    have cC := C6.out.cell
    have cD := D6.out.cell
    have cT := T6.out.cell
    have fT := T6.out.frozen
    have dX := fun (u : Value) => (X6.out.other (a := ⟨w1.heap.size, 3, none⟩) (by show _ ≠ w1.heap.size; omega) u).cell
    have dC := fun (u : Value) => (C6.out.other (a := ⟨w1.heap.size, 3, none⟩) (by show _ ≠ w1.heap.size; omega) u).cell
    have dD := fun (u : Value) => (D6.out.other (a := ⟨w1.heap.size, 3, none⟩) (by show _ ≠ w1.heap.size; omega) u).cell
    have dT := fun (u : Value) => (T6.out.set 3 u).cell
    simp only [List.setIfInBounds_toArray, List.set_cons_zero, List.set_cons_succ] at dT
    have gT := fun (u : Value) => (T6.out.set 3 u).frozen
    have S7 := hid (S6.out.other (a := ⟨w1.heap.size, 3, none⟩) (by show _ ≠ w1.heap.size; omega) (.int .i64 (tgt m.ga nm)))
    have B7 := hid (B6.out.setCell (show w.heap.size ≤ (⟨w1.heap.size, 3, none⟩ : Addr).block from B1.out.size) (.int .i64 (tgt m.ga nm)))
    have gS := fun (u : Value) => (S6.out.other (a := ⟨w1.heap.size, 3, none⟩) (by show _ ≠ w1.heap.size; omega) u).frozen
    have hS := fun (u : Value) => (S6.out.other (a := ⟨w1.heap.size, 3, none⟩) (by show _ ≠ w1.heap.size; omega) u).cell
    go_wp2
    have K := hid ((((S7.out.set 0 (.int .i64 nb)).set 1 (.int .i64 nm)).set 2 (.int .i64 (tgt b.ga nb))).set 3 (.int .i64 (tgt m.ga nm)))
    have k0 := K.out.cell 0
    have k1 := K.out.cell 1
    have k2 := K.out.cell 2
    have k3 := K.out.cell 3
    simp at k0 k1 k2 k3
    refine bodyPost_ret (v := .tuple #[.agg #[.int .i64 nb, .int .i64 nm, .int .i64 (tgt b.ga nb), .int .i64 (tgt m.ga nm)], .int .i64 0]) (by simp [results, Try.results35, go_sem, k0, k1, k2, k3]) rfl ?_
    exact restw_ok HC.out HS.out HNB.out HNM.out (by repeat (first | with_reducible exact B7.out | (with_reducible refine Below.setCell ?_ ?_ _; rotate_left; · (first | (simp; done) | (simp; omega) | omega))))
end Go.Proofs.Ytddphdkhaaolmaa
