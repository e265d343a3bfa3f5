/- The statement DelayShifts, walked. -/
import Derived.Test.YtlnbnankmafjaaaLaw24
import Derived.Test.YtlnbnankmafjaaaSeq
namespace Go.Proofs.Ytlnbnankmafjaaa
open Go.RowKit

theorem own_lit1 (w : World) (t : TypeId) (x : Int) : (w.alloc (.cells #[.int .i64 x] t)).ownsRow 0 t 1 (.slice (some ⟨w.heap.size, 0, none⟩) 1 1) 1 (ints [x]) := by
  simpa [ints] using World.ownsRow_lit (base := 0) (e := t) (size := 1) w #[.int .i64 x] 1 (Nat.zero_le _) (by unfold maxLen; omega) rfl

/-- Behind 'all = append([]int{x}, all...)'. -/
theorem cons_step {w3 wr w1 : World} {v' : Value} {x : Int} {k : Nat} {l : List Int} (hc : Chg Nn w3 wr) (ho : w1.ownsRow 0 3 1 v' (1 + (k + l.length)) (ints [x] ++ ints (List.replicate k x ++ l))) (hchg : Chg (Rw (.slice (some ⟨wr.heap.size, 0, none⟩) 1 1)) (wr.alloc (.cells #[.int .i64 x] 3)) w1) :
    ∃ A c, v' = .slice A (k + 1 + l.length) c ∧ k + 1 + l.length ≤ c ∧ c ≤ maxLen ∧ Rds Nn w1 1 A (k + 1 + l.length) (ints (List.replicate (k + 1) x ++ l)) ∧ Chg Nn w3 w1 := by
  have e : 1 + (k + l.length) = k + 1 + l.length := by omega
  rw [e] at ho
  obtain ⟨A, c, rfl, h1, h2⟩ := own_form ho
  refine ⟨A, c, rfl, h1, h2, ?_, hc.trans (Chg.of_below (S := Nn) (chg_new hchg) (fun b hb h => by omega)) (fun _ _ => id)⟩
  have := Rds.own ho (S := Nn) (fun _ _ => id)
  rwa [← ints_append, ← List.append_assoc, show [x] ++ List.replicate k x = List.replicate (k + 1) x from rfl] at this

set_option maxHeartbeats 1000000 in
theorem delayShifts_walk (x0 : Int) (x1 : Int) (a2 : Option Addr) (c2 : Nat) (x2 : List Int) (w : World) (_h0 : (Lit.int .i64 x0).wf = true) (_h1 : (Lit.int .i64 x1).wf = true) (h2 : Rds Nn w 1 a2 x2.length (ints x2)) (g2 : x2.length ≤ c2 ∧ c2 ≤ maxLen ∧ (a2 = none → x2.length = 0 ∧ c2 = 0)) (_i2 : ∀ n ∈ x2, (Lit.int .i64 n).wf = true) :
    Calls Try.prog 3 #[.int .i64 x0, .int .i64 x1, .slice a2 x2.length c2] w fun e w' => e = .returned (.bool true) ∧ Below w.heap.size w w' := by
  have hm : x2.length ≤ 9223372036854775807 := by have := g2.1; have := g2.2.1; unfold maxLen at this; omega
  by_cases hg : 200 < x2.length ∨ x0 < 0 ∨ 32 < x0
  · have fin : ∀ W : World, Calls Try.prog 9 #[] W fun e w' => e = .returned (.bool true) ∧ Below W.heap.size W w' := awake_any
    have HF := hid fin
    clear fin h2 g2
    by_cases q1 : 200 < x2.length
    · go_enter Try.func3, Try.ntmps3
      go_wp2_with (go_at_call 9; refine (HF.out _).mono ?_; rintro e w2 ⟨rfl, hb2⟩)
      go_ret
      exact ⟨rfl, hb2⟩
    · by_cases q2 : x0 < 0
      · go_enter Try.func3, Try.ntmps3
        go_wp2_with (go_at_call 9; refine (HF.out _).mono ?_; rintro e w2 ⟨rfl, hb2⟩)
        go_ret
        exact ⟨rfl, hb2⟩
      · have q3 : 32 < x0 := by omega
        clear hg
        go_enter Try.func3, Try.ntmps3
        go_wp2_with (go_at_call 9; refine (HF.out _).mono ?_; rintro e w2 ⟨rfl, hb2⟩)
        go_ret
        exact ⟨rfl, hb2⟩
  · have q1 : x2.length ≤ 200 := by omega
    have q2 : 0 ≤ x0 := by omega
    have q3 : x0 ≤ 32 := by omega
    clear hg
    obtain ⟨n, rfl⟩ := Int.eq_ofNat_of_zero_le q2
    have H2 := hid h2
    have G2 := hid g2
    clear h2 g2
    go_enter Try.func3, Try.ntmps3
    go_wp2_with fail
    refine (new_any n x1 _ ⟨q2, q3⟩).mono ?_
    rintro e w1 ⟨b, v, rfl, hn, hge, hb1⟩
    rw [Int.toNat_natCast] at hn
    have h1 := hid hn
    have hb := hid hb1
    have hg := hid hge
    clear hn hb1 hge
    go_wp2_with fail
    refine (pushed_any b v _ _ _ x2 _ h1.out (H2.out.old (S := Ft b v) hb.out hg.out) (by simp; omega) (by omega)).mono ?_
    rintro e w2 ⟨vo, rfl, ho2, hg2, hs2⟩
    obtain ⟨Ao, co, rfl, _, _⟩ := own_form ho2
    have HO := hid ho2
    have HG := hid hg2
    have HS := hid hs2
    clear ho2 hg2 hs2
    have hr3 : Rds Nn w2 1 a2 x2.length (ints x2) := ((H2.out.old (S := Ft b v) hb.out hg.out).keep HS.out.2.1).mono (fun _ _ h => h.elim)
    have HR := hid hr3
    clear hr3
    have GA := hid G2.out.1
    go_wp2
    go_loopw [11, 12] (fun va i wr => ∃ (k : Nat) (A : Option Addr) (c : Nat), k ≤ n ∧ i = .int .i64 k ∧ va = .slice A (k + x2.length) c ∧ k + x2.length ≤ c ∧ c ≤ maxLen ∧ Rds Nn wr 1 A (k + x2.length) (ints (List.replicate k x1 ++ x2)) ∧ Chg Nn w2 wr) (fun _ i _ => n - (intOf i).toNat)
    case atStart => exact ⟨0, a2, c2, Nat.zero_le _, rfl, by simp, by simpa using G2.out.1, G2.out.2.1, by simpa using HR.out, Chg.refl _ _⟩
    case round =>
      obtain ⟨k, A, c, hk, rfl, rfl, hkc, hcm, hR, hC⟩ := hrel
      have HRk := hid hR
      have HC := hid hC
      clear hR hC
      by_cases hlt : k < n
      · clear hcm
        go_wp2_with (at_builtin; refine wpList_app info3 Try.underlying22 rfl (by omega) (by omega) (own_lit1 wr 3 x1) (HRk.out.keep ((Chg.refl Nn _).alloc _)) (ints_cell _) (by omega) rfl rfl rfl rfl ?_; intro v' w1 hown hchg _; obtain ⟨A', c', rfl, hc1, hc2, hc3, hc4⟩ := cons_step HC.out hown hchg; have H1 := hid hc1; have H2' := hid hc2; have H3 := hid hc3; have H4 := hid hc4; clear hown hchg hc1 hc2 hc3 hc4)
        go_roundw
        case rel => exact ⟨k + 1, A', c', by omega, by go_num, by simp, H1.out, H2'.out, H3.out, H4.out⟩
        case measure => simp [intOf]; omega
      · have hkn : k = n := by omega
        subst hkn
        have r1 : Rds Nn wr 1 Ao x2.length (ints (outs (List.replicate k x1) x2)) := (Rds.own HO.out (S := Nn) (fun _ _ => id)).keep HC.out
        have r2 : Rds Nn wr 1 A x2.length (ints (outs (List.replicate k x1) x2)) := by
          have := HRk.out.take (k := x2.length) (by omega)
          rwa [Nat.mul_one, ints, ← List.map_take] at this
        have r3 := HRk.out.cut (k := x2.length) (cap := c) (by omega) hkc
        rw [Nat.mul_one, Nat.add_sub_cancel, ints, ← List.map_drop] at r3
        obtain ⟨A3, hA3⟩ : ∃ A3, (if c = x2.length then A else A.map (·.add x2.length)) = A3 := ⟨_, rfl⟩
        rw [hA3] at r3
        have R1 := hid r1
        have R2 := hid r2
        have R3 := hid r3
        have HL := hid (HS.out.1.keep HC.out (fun _ _ => id))
        have HBw := hid (hb.out.trans ((HS.out.2.1.trans (HC.out.mono (fun _ _ h => h.elim)) (fun _ _ h => h)).below hb.out.size (fun q hq hf => by have := hg.out q hf; omega)))
        clear r1 r2 r3
        have i9 : x2.length ≤ c := by omega
        go_wp2
        refine wp_region_seq [0, 1, 2, 3, 4, 5, 6, 7, 8, 9, 10, 12, 13, 14, 15, 11, 16, 17, 18, 19, 20, 21] _ (by kernel_rfl) (by kernel_rfl) (by kernel_rfl) (by decide) rfl ?_
        intro Q0 K0 hK0
        simp only [List.filterMap_cons, List.filterMap_nil, List.getElem?_toArray, List.getElem?_cons_zero, List.getElem?_cons_succ]
        go_wp2_with fail
        refine (ints_true _ _ _ _ _ _ (outs (List.replicate k x1) x2) _ ?_ ?_ ?_).mono ?_
        · exact R1.out
        · exact R2.out
        · omega
        rintro e w3 ⟨rfl, m1, rfl⟩
        go_wp2_with fail
        refine (values_any b v (rest (List.replicate k x1) x2) _ ?_ ?_).mono ?_
        · exact HL.out.keep ((Chg.refl Nn _).drewN _) (fun _ _ => id)
        · rw [rest_len]; simp; omega
        rintro e w4 ⟨v4, rfl, hv4⟩
        obtain ⟨A4, c4, rfl, _, _⟩ := own_form hv4.1
        have V4 := hid hv4
        clear hv4
        go_wp2_with fail
        refine (ints_true _ _ _ _ _ _ (rest (List.replicate k x1) x2) _ ?_ ?_ ?_).mono ?_
        · exact (Rds.own V4.out.1 (S := Nn) (fun _ _ => id))
        · exact (R3.out.keep ((Chg.refl Nn _).drewN _)).below V4.out.2.2
        · rw [rest_len]; simp; omega
        rintro e w5 ⟨rfl, m5, rfl⟩
        go_wp2_with fail
        refine (awake_any _).mono ?_
        rintro e w6 ⟨rfl, hb6⟩
        have B6 := hid hb6
        clear hb6
        go_wp2
        go_ret
        exact ⟨rfl, (((pw_below_drewN HBw.out (1 + m1)).trans (V4.out.2.2.mono HBw.out.size)).trans (below_drewN_le m5 (Nat.le_trans HBw.out.size V4.out.2.2.size))).trans (B6.out.mono (Nat.le_trans HBw.out.size V4.out.2.2.size))⟩
end Go.Proofs.Ytlnbnankmafjaaa
