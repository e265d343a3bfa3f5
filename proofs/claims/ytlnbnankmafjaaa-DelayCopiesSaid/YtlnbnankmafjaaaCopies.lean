/- The statement DelayCopies, walked. -/
import Derived.Test.YtlnbnankmafjaaaLaw24
import Derived.Test.YtlnbnankmafjaaaSeq
namespace Go.Proofs.Ytlnbnankmafjaaa
open Go.RowKit

set_option maxHeartbeats 1000000 in
theorem delayCopies_walk (x0 : Int) (x1 : Int) (a2 : Option Addr) (c2 : Nat) (x2 : List Int) (a3 : Option Addr) (c3 : Nat) (x3 : List Int) (a4 : Option Addr) (c4 : Nat) (x4 : List Int) (w : World) (_h0 : (Lit.int .i64 x0).wf = true) (_h1 : (Lit.int .i64 x1).wf = true) (h2 : Rds Nn w 1 a2 x2.length (ints x2)) (g2 : x2.length ≤ c2 ∧ c2 ≤ maxLen ∧ (a2 = none → x2.length = 0 ∧ c2 = 0)) (_i2 : ∀ n ∈ x2, (Lit.int .i64 n).wf = true) (h3 : Rds Nn w 1 a3 x3.length (ints x3)) (g3 : x3.length ≤ c3 ∧ c3 ≤ maxLen ∧ (a3 = none → x3.length = 0 ∧ c3 = 0)) (_i3 : ∀ n ∈ x3, (Lit.int .i64 n).wf = true) (h4 : Rds Nn w 1 a4 x4.length (ints x4)) (g4 : x4.length ≤ c4 ∧ c4 ≤ maxLen ∧ (a4 = none → x4.length = 0 ∧ c4 = 0)) (_i4 : ∀ n ∈ x4, (Lit.int .i64 n).wf = true) :
    Calls Try.prog 5 #[.int .i64 x0, .int .i64 x1, .slice a2 x2.length c2, .slice a3 x3.length c3, .slice a4 x4.length c4] w fun e w' => e = .returned (.bool true) ∧ Below w.heap.size w w' := by
  have hm2 : x2.length ≤ 9223372036854775807 := by have := g2.1; have := g2.2.1; unfold maxLen at this; omega
  have hm3 : x3.length ≤ 9223372036854775807 := by have := g3.1; have := g3.2.1; unfold maxLen at this; omega
  have hm4 : x4.length ≤ 9223372036854775807 := by have := g4.1; have := g4.2.1; unfold maxLen at this; omega
  by_cases hg : 60 < x2.length ∨ 60 < x3.length ∨ 60 < x4.length ∨ x0 < 0 ∨ 32 < x0
  · have fin : ∀ W : World, Calls Try.prog 9 #[] W fun e w' => e = .returned (.bool true) ∧ Below W.heap.size W w' := awake_any
    have HF := hid fin
    clear fin h2 g2 h3 g3 h4 g4
    by_cases q1 : 60 < x2.length
    · skip
      go_enter Try.func5, Try.ntmps5
      go_wp2_with (go_at_call 9; refine (HF.out _).mono ?_; rintro e w2 ⟨rfl, hb2⟩)
      go_ret
      exact ⟨rfl, hb2⟩
    · skip
      by_cases q2 : 60 < x3.length
      · skip
        go_enter Try.func5, Try.ntmps5
        go_wp2_with (go_at_call 9; refine (HF.out _).mono ?_; rintro e w2 ⟨rfl, hb2⟩)
        go_ret
        exact ⟨rfl, hb2⟩
      · skip
        by_cases q3 : 60 < x4.length
        · skip
          go_enter Try.func5, Try.ntmps5
          go_wp2_with (go_at_call 9; refine (HF.out _).mono ?_; rintro e w2 ⟨rfl, hb2⟩)
          go_ret
          exact ⟨rfl, hb2⟩
        · skip
          by_cases q4 : x0 < 0
          · skip
            go_enter Try.func5, Try.ntmps5
            go_wp2_with (go_at_call 9; refine (HF.out _).mono ?_; rintro e w2 ⟨rfl, hb2⟩)
            go_ret
            exact ⟨rfl, hb2⟩
          · skip
            have q5 : 32 < x0 := by omega
            clear hg
            go_enter Try.func5, Try.ntmps5
            go_wp2_with (go_at_call 9; refine (HF.out _).mono ?_; rintro e w2 ⟨rfl, hb2⟩)
            go_ret
            exact ⟨rfl, hb2⟩
  · have q1 : x2.length ≤ 60 := by omega
    have q2 : x3.length ≤ 60 := by omega
    have q3 : x4.length ≤ 60 := by omega
    have q4 : 0 ≤ x0 := by omega
    have q5 : x0 ≤ 32 := by omega
    clear hg
    obtain ⟨n, rfl⟩ := Int.eq_ofNat_of_zero_le q4
    have H2 := hid h2
    have H3 := hid h3
    have H4 := hid h4
    clear h2 g2 h3 g3 h4 g4
    go_enter Try.func5, Try.ntmps5
    go_wp2_with fail
    refine (new_any n x1 _ ⟨q4, q5⟩).mono ?_
    rintro e w1 ⟨b, v, rfl, hn, hge, hb1⟩
    rw [Int.toNat_natCast] at hn
    have L1 := hid hn
    have B1 := hid hb1
    have G1 := hid hge
    clear hn hb1 hge
    go_wp2_with fail
    refine (pushed_any b v _ _ _ x2 _ L1.out (H2.out.old (S := Ft b v) B1.out G1.out) (by simp; omega) (by omega)).mono ?_
    rintro e w2 ⟨vo, rfl, ho, hgo, hs⟩
    obtain ⟨xs, hxs⟩ : ∃ xs, rest (List.replicate n x1) x2 = xs := ⟨_, rfl⟩
    have hxl : xs.length = n := by rw [← hxs, rest_len]; simp
    rw [hxs] at hs
    obtain ⟨Ao, co, rfl, _, _⟩ := own_form ho
    have L2 := hid hs.1
    have B2 := hid (B1.out.trans (hs.2.1.below B1.out.size (fun q hq hf => by have := G1.out q hf; omega)))
    have X := hid hxl
    clear ho hgo hs hxs hxl
    go_wp2_with fail
    refine (copy_any b v xs _ L2.out (by rw [X.out]; omega)).mono ?_
    rintro e w3 ⟨b1, v1, rfl, hn, hge, hb⟩
    have C3 := hid hn
    have L3 := hid (L2.out.below hb)
    have B3 := hid (B2.out.trans (hb.mono B2.out.size))
    have GC := hid hge
    have DL := hid L2.out.lt
    clear hn hge hb
    go_wp2_with fail
    refine (copy_any b v xs _ L3.out (by rw [X.out]; omega)).mono ?_
    rintro e w4 ⟨b2, v2, rfl, hn, hge, hb⟩
    have D4 := hid hn
    have L4 := hid (L3.out.below hb)
    have C4 := hid (C3.out.below hb)
    have B4 := hid (B3.out.trans (hb.mono B3.out.size))
    have GD := hid hge
    have DC := hid C3.out.lt
    have z12 : w2.heap.size ≤ w3.heap.size := by
      rcases Nat.lt_or_ge w2.heap.size w3.heap.size with h | h
      · omega
      · have := DC.out b1 (.inl rfl); have := GC.out b1 (.inl rfl); omega
    have s2 := B2.out.size
    clear hn hge hb
    go_wp2_with fail
    refine (pushed_any b2 v2 _ _ xs x4 _ D4.out (H4.out.old (S := Ft b2 v2) B4.out (fun k hk => by have := GD.out k hk; omega)) (by rw [X.out]; omega) (by omega)).mono ?_
    rintro e w5 ⟨vo, rfl, ho, hgo, hs⟩
    obtain ⟨Ao5, co5, rfl, _, _⟩ := own_form ho
    have D5 := hid hs.1
    have L5 := hid (L4.out.keep hs.2.1 (fun k hk hf => by have := DL.out k hk; have := GD.out k hf; omega))
    have C5 := hid (C4.out.keep hs.2.1 (fun k hk hf => by have := DC.out k hk; have := GD.out k hf; omega))
    have B5 := hid (B4.out.trans (hs.2.1.below B4.out.size (fun q hq hf => by have := GD.out q hf; omega)))
    clear ho hgo hs
    go_wp2_with fail
    refine (pushed_any b v _ _ xs x3 _ L5.out (H3.out.old (S := Ft b v) B5.out G1.out) (by rw [X.out]; omega) (by omega)).mono ?_
    rintro e w6 ⟨vo, rfl, ho, hgo, hs⟩
    obtain ⟨Ao6, co6, rfl, _, _⟩ := own_form ho
    have O6 := hid ho
    have GO := hid hgo
    have L6 := hid hs.1
    have C6 := hid (C5.out.keep hs.2.1 (fun k hk hf => by have := DL.out k hf; have := GC.out k hk; omega))
    have D6 := hid (D5.out.keep hs.2.1 (fun k hk hf => by have := DL.out k hf; have := GD.out k hk; omega))
    have B6 := hid (B5.out.trans (hs.2.1.below B5.out.size (fun q hq hf => by have := G1.out q hf; omega)))
    have s5 := B5.out.size
    have DD := hid D5.out.lt
    have DC5 := hid C5.out.lt
    clear ho hgo hs
    go_wp2_with fail
    refine (pushed_any b2 v2 _ _ (rest xs x4) x4 _ D6.out (H4.out.old (S := Ft b2 v2) B6.out (fun k hk => by have := GD.out k hk; omega)) (by rw [rest_len, X.out]; omega) (by omega)).mono ?_
    rintro e w7 ⟨vo, rfl, ho, hgo, hs⟩
    obtain ⟨Ao7, co7, rfl, _, _⟩ := own_form ho
    have L7 := hid (L6.out.keep hs.2.1 (fun k hk hf => by have := DL.out k hk; have := GD.out k hf; omega))
    have C7 := hid (C6.out.keep hs.2.1 (fun k hk hf => by have := DC.out k hk; have := GD.out k hf; omega))
    have O7 := hid (own_keep O6.out hs.2.1 (fun g hg hf => by have := GO.out g hg; have := DD.out g hf; omega))
    have B7 := hid (B6.out.trans (hs.2.1.below B6.out.size (fun q hq hf => by have := GD.out q hf; omega)))
    clear ho hgo hs
    go_wp2_with fail
    refine (pushed_any b1 v1 _ _ xs x3 _ C7.out (H3.out.old (S := Ft b1 v1) B7.out (fun k hk => by have := GC.out k hk; omega)) (by rw [X.out]; omega) (by omega)).mono ?_
    rintro e w8 ⟨vo, rfl, ho, hgo, hs⟩
    obtain ⟨Ao8, co8, rfl, _, _⟩ := own_form ho
    have P8 := hid ho
    have L8 := hid (L7.out.keep hs.2.1 (fun k hk hf => by have := DL.out k hk; have := GC.out k hf; omega))
    have C8 := hid hs.1
    have O8 := hid (own_keep O7.out hs.2.1 (fun g hg hf => by have := GO.out g hg; have := DC5.out g hf; omega))
    have B8 := hid (B7.out.trans (hs.2.1.below B7.out.size (fun q hq hf => by have := GC.out q hf; omega)))
    clear ho hgo hs
    go_wp2_with fail
    refine (ints_true _ _ _ _ _ _ (outs xs x3) _ ?_ ?_ ?_).mono ?_
    · exact Rds.own O8.out (S := Nn) (fun _ _ => id)
    · exact Rds.own P8.out (S := Nn) (fun _ _ => id)
    · omega
    rintro e wa ⟨rfl, ma, rfl⟩
    go_wp2_with fail
    refine (values_any b v (rest xs x3) _ (L8.out.keep ((Chg.refl Nn _).drewN _) (fun _ _ => id)) (by rw [rest_len, X.out]; omega)).mono ?_
    rintro e wb ⟨vb, rfl, hvb⟩
    obtain ⟨Ab, cb, rfl, _, _⟩ := own_form hvb.1
    have VB := hid hvb
    have CB := hid ((C8.out.keep ((Chg.refl Nn _).drewN ma) (fun _ _ => id)).below hvb.2.2)
    have BB := hid ((pw_below_drewN B8.out ma).trans (hvb.2.2.mono B8.out.size))
    clear hvb
    go_wp2_with fail
    refine (values_any b1 v1 (rest xs x3) _ CB.out (by rw [rest_len, X.out]; omega)).mono ?_
    rintro e wc ⟨vc, rfl, hvc⟩
    obtain ⟨Ac, cc, rfl, _, _⟩ := own_form hvc.1
    have VC := hid hvc
    have BC := hid (BB.out.trans (hvc.2.2.mono BB.out.size))
    clear hvc
    go_wp2_with fail
    refine (ints_true _ _ _ _ _ _ (rest xs x3) _ ?_ ?_ ?_).mono ?_
    · exact (Rds.own VB.out.1 (S := Nn) (fun _ _ => id)).below VC.out.2.2
    · exact Rds.own VC.out.1 (S := Nn) (fun _ _ => id)
    · rw [rest_len, X.out]; omega
    rintro e wd ⟨rfl, md, rfl⟩
    go_wp2_with fail
    refine (awake_any _).mono ?_
    rintro e we ⟨rfl, hbe⟩
    have BE := hid hbe
    clear hbe
    go_wp2
    go_ret
    exact ⟨rfl, (pw_below_drewN BC.out md).trans (BE.out.mono BC.out.size)⟩
end Go.Proofs.Ytlnbnankmafjaaa
