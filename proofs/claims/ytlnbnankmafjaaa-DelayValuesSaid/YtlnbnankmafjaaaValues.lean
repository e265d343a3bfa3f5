/- The statement DelayValues, walked. -/
import Derived.Test.YtlnbnankmafjaaaLaw24
namespace Go.Proofs.Ytlnbnankmafjaaa
open Go.RowKit

theorem values_step {wr : World} {g n c k : Nat} {ys : List Int} {x : Int} (h : wr.ownsRow 0 3 1 (.slice (some ⟨g, 0, none⟩) n c) n (ints ys)) :
    (wr.setCell ⟨g, k, none⟩ (.int .i64 x)).ownsRow 0 3 1 (.slice (some ⟨g, 0, none⟩) n c) n (ints (ys.set k x)) ∧ Chg (Rw (.slice (some ⟨g, 0, none⟩) n c)) wr (wr.setCell ⟨g, k, none⟩ (.int .i64 x)) := by
  refine ⟨?_, Chg.setCell (S := Rw (.slice (some ⟨g, 0, none⟩) n c)) (a := ⟨g, k, none⟩) (Chg.refl _ _) (.inl rfl) _⟩
  have := (h.stored k (.int .i64 x)).1
  rwa [ints, ← List.map_set] at this

set_option maxHeartbeats 1000000 in
theorem delayValues_walk (x0 : Int) (x1 : Int) (a2 : Option Addr) (c2 : Nat) (x2 : List Int) (w : World) (_h0 : (Lit.int .i64 x0).wf = true) (_h1 : (Lit.int .i64 x1).wf = true) (h2 : Rds Nn w 1 a2 x2.length (ints x2)) (g2 : x2.length ≤ c2 ∧ c2 ≤ maxLen ∧ (a2 = none → x2.length = 0 ∧ c2 = 0)) (_i2 : ∀ n ∈ x2, (Lit.int .i64 n).wf = true) :
    Calls Try.prog 4 #[.int .i64 x0, .int .i64 x1, .slice a2 x2.length c2] w fun e w' => e = .returned (.bool true) ∧ Below w.heap.size w w' := by
  have hm : x2.length ≤ 9223372036854775807 := by have := g2.1; have := g2.2.1; unfold maxLen at this; omega
  by_cases hg : 60 < x2.length ∨ x0 < 1 ∨ 32 < x0
  · have fin : ∀ W : World, Calls Try.prog 9 #[] W fun e w' => e = .returned (.bool true) ∧ Below W.heap.size W w' := awake_any
    have HF := hid fin
    clear fin h2 g2
    by_cases q1 : 60 < x2.length
    · go_enter Try.func4, Try.ntmps4
      go_wp2_with (go_at_call 9; refine (HF.out _).mono ?_; rintro e w2 ⟨rfl, hb2⟩)
      go_ret
      exact ⟨rfl, hb2⟩
    · by_cases q2 : x0 < 1
      · go_enter Try.func4, Try.ntmps4
        go_wp2_with (go_at_call 9; refine (HF.out _).mono ?_; rintro e w2 ⟨rfl, hb2⟩)
        go_ret
        exact ⟨rfl, hb2⟩
      · have q3 : 32 < x0 := by omega
        clear hg
        go_enter Try.func4, Try.ntmps4
        go_wp2_with (go_at_call 9; refine (HF.out _).mono ?_; rintro e w2 ⟨rfl, hb2⟩)
        go_ret
        exact ⟨rfl, hb2⟩
  · have q1 : x2.length ≤ 60 := by omega
    have q2 : 1 ≤ x0 := by omega
    have q3 : x0 ≤ 32 := by omega
    clear hg
    obtain ⟨n, rfl⟩ := Int.eq_ofNat_of_zero_le (show 0 ≤ x0 by omega)
    have H2 := hid h2
    clear h2 g2
    go_enter Try.func4, Try.ntmps4
    go_wp2_with fail
    refine (new_any n x1 _ ⟨by omega, q3⟩).mono ?_
    rintro e w1 ⟨b, v, rfl, hn, hge, hb1⟩
    rw [Int.toNat_natCast] at hn
    have h1 := hid hn
    have hb := hid hb1
    have hg := hid hge
    clear hn hb1 hge
    go_wp2_with fail
    refine (pushed_any b v _ _ _ x2 _ h1.out (H2.out.old (S := Ft b v) hb.out hg.out) (by simp; omega) (by omega)).mono ?_
    rintro e w2 ⟨vo, rfl, ho2, hg2, hs2⟩
    obtain ⟨Ao, co, rfl, _, _⟩ := own_form ho2
    have hB2 := hb.out.trans (hs2.2.1.below hb.out.size (fun q hq hf => by have := hg.out q hf; omega))
    obtain ⟨xs, hxs⟩ : ∃ xs, rest (List.replicate n x1) x2 = xs := ⟨_, rfl⟩
    have hxl : xs.length = n := by rw [← hxs, rest_len]; simp
    rw [hxs] at hs2
    have hL2 := hs2.1
    clear ho2 hg2 hs2 hxs
    have HL := hid hL2
    have HB := hid hB2
    have HX := hid hxl
    clear hL2 hB2 hxl
    go_wp2_with fail
    refine (values_any b v xs _ HL.out (by rw [HX.out]; omega)).mono ?_
    rintro e w3 ⟨v3, rfl, hv3⟩
    obtain ⟨g3, c3, rfl, _, _⟩ := own_pos hv3.1 (by rw [HX.out]; omega)
    have V3 := hid hv3
    have HL3 := hid (HL.out.below hv3.2.2)
    clear hv3
    go_wp2_with fail
    refine (values_any b v xs _ HL3.out (by rw [HX.out]; omega)).mono ?_
    rintro e w4 ⟨v4, rfl, hv4⟩
    obtain ⟨g4, c4, rfl, _, _⟩ := own_pos hv4.1 (by rw [HX.out]; omega)
    have V4 := hid hv4
    have HL4 := hid (HL3.out.below hv4.2.2)
    clear hv4
    rw [HX.out]
    have k1 : ((n : Int) != (n : Int)) = false := by simp
    have o3 : w4.ownsRow 0 3 1 (.slice (some ⟨g3, 0, none⟩) n c3) n (ints xs) := by
      have := own_keep V3.out.1 (Chg.of_below (S := Nn) V4.out.2.2 (fun b hb h => by omega)) (fun _ _ => id)
      rwa [HX.out] at this
    have o4 : w4.ownsRow 0 3 1 (.slice (some ⟨g4, 0, none⟩) n c4) n (ints xs) := by
      have := V4.out.1
      rwa [HX.out] at this
    have b3 : w2.heap.size ≤ g3 := V3.out.2.1 g3 rfl
    have b4 : w3.heap.size ≤ g4 := V4.out.2.1 g4 rfl
    have b5 : g3 < w3.heap.size := (own_blk V3.out.1 g3 rfl).2
    have O3 := hid o3
    have O4 := hid o4
    clear o3 o4
    go_wp2
    go_loopw [11] (fun i wr => ∃ (k : Nat) (ys : List Int), k ≤ n ∧ i = .int .i64 k ∧ ys.length = n ∧ wr.ownsRow 0 3 1 (.slice (some ⟨g3, 0, none⟩) n c3) n (ints ys) ∧ Chg (Rw (.slice (some ⟨g3, 0, none⟩) n c3)) w4 wr) (fun i _ => n - (intOf i).toNat)
    case atStart => exact ⟨0, xs, Nat.zero_le _, rfl, HX.out, O3.out, Chg.refl _ _⟩
    case round =>
      obtain ⟨k, ys, hk, rfl, hy, ho, hc⟩ := hrel
      have HY := hid hy
      have HO := hid ho
      have HC := hid hc
      clear hy ho hc
      by_cases hlt : k < n
      · have hv : ∃ y, wr.cell? ⟨g3, k, none⟩ = some (.int .i64 y) := by
          rw [HO.out.cellAt k (by omega), ints_get, List.getElem?_eq_getElem (by rw [HY.out]; exact hlt)]
          exact ⟨_, rfl⟩
        obtain ⟨y, hcell⟩ := hv
        have hfz := HO.out.frozenAt k
        go_wp2
        go_roundw
        case rel => exact ⟨k + 1, _, by omega, by go_num, by rw [List.length_set]; exact HY.out, (values_step HO.out).1, HC.out.trans (values_step HO.out).2 (fun _ _ h => h)⟩
        case measure => simp [intOf]; omega
      · have hfar : ∀ q, Ft b v q → ¬ Rw (.slice (some ⟨g3, 0, none⟩) n c3) q := fun q hq he => by
          have h1 := HL.out.lt q hq
          have h2 : g3 = q := by simpa [Rw, Value.ownBlock] using he
          omega
        have HL5 := hid (HL4.out.keep HC.out hfar)
        have o5 := own_keep O4.out HC.out (fun q hq he => by
          have h1 : g4 = q := by simpa [Value.ownBlock] using hq
          have h2 : g3 = q := by simpa [Rw, Value.ownBlock] using he
          omega)
        have O5 := hid o5
        clear o5 hfar
        obtain ⟨y, ys', hyx⟩ : ∃ y ys', xs = y :: ys' := List.exists_cons_of_length_pos (by rw [HX.out]; omega)
        have HYX := hid hyx
        clear hyx
        go_wp2_with fail
        refine (push_any b v xs 5 _ HL5.out (by rw [HX.out]; omega)).mono ?_
        rintro e w5 ⟨rfl, hs5⟩
        have c5 : w5.cell? ⟨g4, 0, none⟩ = some (.int .i64 y) := by
          have := own_keep O5.out hs5.2.1 (fun q hq hf => by
            have h1 : g4 = q := by simpa [Value.ownBlock] using hq
            have h2 := HL.out.lt q hf
            have h3 := V3.out.2.2.size
            omega)
          rw [this.cellAt 0 (by omega), ints_get, HYX.out]
          rfl
        have e5 : outOf xs 5 = y := by rw [HYX.out]; rfl
        rw [e5]
        have S5 := hid hs5
        clear hs5 e5
        have k2 : (y == y) = true := by simp
        go_wp2_with fail
        refine (awake_any _).mono ?_
        rintro e w6 ⟨rfl, hb6⟩
        have B6 := hid hb6
        clear hb6
        go_wp2
        go_ret
        have s2 := V3.out.2.2.size
        have s3 := V4.out.2.2.size
        have s1 := HB.out.size
        refine ⟨rfl, ?_⟩
        have t1 := (HB.out.trans (V3.out.2.2.mono s1)).trans (V4.out.2.2.mono (by omega))
        have t2 := t1.trans (HC.out.below (by omega) (fun q hq he => by have h2 : g3 = q := by simpa [Rw, Value.ownBlock] using he
                                                                        omega))
        have t3 := t2.trans (S5.out.2.1.below t2.size (fun q hq he => by have := hg.out q he; omega))
        exact t3.trans (B6.out.mono t3.size)
end Go.Proofs.Ytlnbnankmafjaaa
