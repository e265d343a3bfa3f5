/- The statement DelayResets, walked. -/
import Derived.Test.YtlnbnankmafjaaaLaw24
import Derived.Test.YtlnbnankmafjaaaSeq
namespace Go.Proofs.Ytlnbnankmafjaaa
open Go.RowKit

theorem Ft_newer {w : World} {b : Nat} {v v' : Value} (h : Newer w v v') {k : Nat} (hk : Ft b v' k) : Ft b v k ∨ w.heap.size ≤ k := by
  rcases hk with rfl | hk
  · exact .inl (.inl rfl)
  · rcases h k hk with h | h
    · exact .inl (.inr h)
    · exact .inr h
theorem rest_reset (xs l : List Int) (y : Int) : List.replicate (rest xs l).length y = List.replicate xs.length y := by rw [rest_len]

set_option maxHeartbeats 1000000 in
theorem delayResets_walk (x0 : Int) (x1 : Int) (x2 : Int) (a3 : Option Addr) (c3 : Nat) (x3 : List Int) (a4 : Option Addr) (c4 : Nat) (x4 : List Int) (w : World) (_h0 : (Lit.int .i64 x0).wf = true) (_h1 : (Lit.int .i64 x1).wf = true) (_h2 : (Lit.int .i64 x2).wf = true) (h3 : Rds Nn w 1 a3 x3.length (ints x3)) (g3 : x3.length ≤ c3 ∧ c3 ≤ maxLen ∧ (a3 = none → x3.length = 0 ∧ c3 = 0)) (_i3 : ∀ n ∈ x3, (Lit.int .i64 n).wf = true) (h4 : Rds Nn w 1 a4 x4.length (ints x4)) (g4 : x4.length ≤ c4 ∧ c4 ≤ maxLen ∧ (a4 = none → x4.length = 0 ∧ c4 = 0)) (_i4 : ∀ n ∈ x4, (Lit.int .i64 n).wf = true) :
    Calls Try.prog 6 #[.int .i64 x0, .int .i64 x1, .int .i64 x2, .slice a3 x3.length c3, .slice a4 x4.length c4] w fun e w' => e = .returned (.bool true) ∧ Below w.heap.size w w' := by
  have hm3 : x3.length ≤ 9223372036854775807 := by have := g3.1; have := g3.2.1; unfold maxLen at this; omega
  have hm4 : x4.length ≤ 9223372036854775807 := by have := g4.1; have := g4.2.1; unfold maxLen at this; omega
  by_cases hg : 60 < x3.length ∨ 60 < x4.length ∨ x0 < 0 ∨ 32 < x0
  · have fin : ∀ W : World, Calls Try.prog 9 #[] W fun e w' => e = .returned (.bool true) ∧ Below W.heap.size W w' := awake_any
    have HF := hid fin
    clear fin h3 g3 h4 g4
    by_cases q1 : 60 < x3.length
    · go_enter Try.func6, Try.ntmps6
      go_wp2_with (go_at_call 9; refine (HF.out _).mono ?_; rintro e w2 ⟨rfl, hb2⟩)
      go_ret
      exact ⟨rfl, hb2⟩
    · by_cases q2 : 60 < x4.length
      · go_enter Try.func6, Try.ntmps6
        go_wp2_with (go_at_call 9; refine (HF.out _).mono ?_; rintro e w2 ⟨rfl, hb2⟩)
        go_ret
        exact ⟨rfl, hb2⟩
      · by_cases q3 : x0 < 0
        · go_enter Try.func6, Try.ntmps6
          go_wp2_with (go_at_call 9; refine (HF.out _).mono ?_; rintro e w2 ⟨rfl, hb2⟩)
          go_ret
          exact ⟨rfl, hb2⟩
        · have q4 : 32 < x0 := by omega
          clear hg
          go_enter Try.func6, Try.ntmps6
          go_wp2_with (go_at_call 9; refine (HF.out _).mono ?_; rintro e w2 ⟨rfl, hb2⟩)
          go_ret
          exact ⟨rfl, hb2⟩
  · have q1 : x3.length ≤ 60 := by omega
    have q2 : x4.length ≤ 60 := by omega
    have q3 : 0 ≤ x0 := by omega
    have q4 : x0 ≤ 32 := by omega
    clear hg
    obtain ⟨n, rfl⟩ := Int.eq_ofNat_of_zero_le q3
    have H3 := hid h3
    have H4 := hid h4
    clear h3 g3 h4 g4
    go_enter Try.func6, Try.ntmps6
    go_wp2_with fail
    refine (new_any n x1 _ ⟨q3, q4⟩).mono ?_
    rintro e w1 ⟨b, v, rfl, hn, hge, hb1⟩
    rw [Int.toNat_natCast] at hn
    have L1 := hid hn
    have B1 := hid hb1
    have G1 := hid hge
    clear hn hb1 hge
    go_wp2_with fail
    refine (new_any n x2 _ ⟨q3, q4⟩).mono ?_
    rintro e w2 ⟨b', v', rfl, hn, hge, hb1⟩
    rw [Int.toNat_natCast] at hn
    have M2 := hid hn
    have L2 := hid (L1.out.below hb1)
    have B2 := hid (B1.out.trans (hb1.mono B1.out.size))
    have D2 : Hid (∀ k, Ft b v k → k < w1.heap.size) := hid L1.out.lt
    have G2 : Hid (∀ k, Ft b' v' k → w1.heap.size ≤ k) := hid hge
    clear hn hb1 hge
    go_wp2_with fail
    refine (pushed_any b v _ _ _ x3 _ L2.out (H3.out.old (S := Ft b v) B2.out G1.out) (by simp; omega) (by omega)).mono ?_
    rintro e w3 ⟨vo, rfl, ho3, hg3, hs3⟩
    obtain ⟨Ao, co, rfl, _, _⟩ := own_form ho3
    have L3 := hid hs3.1
    have M3 := hid (M2.out.keep hs3.2.1 (fun k hk hf => by have := D2.out k hf; have := G2.out k hk; omega))
    have B3 := hid (B2.out.trans (hs3.2.1.below B2.out.size (fun q hq hf => by have := G1.out q hf; omega)))
    have C3 := hid hs3.2.1
    clear ho3 hg3 hs3
    go_wp2_with fail
    refine (reset_any b v _ x2 _ L3.out (by rw [rest_len]; simp; omega)).mono ?_
    rintro e w4 ⟨v4, rfl, hs4⟩
    rw [rest_reset, List.length_replicate] at hs4
    have L4 := hid hs4.1
    have M4 := hid (M3.out.keep hs4.2.1 (fun k hk hf => by have := D2.out k hf; have := G2.out k hk; omega))
    have B4 := hid (B3.out.trans (hs4.2.1.below B3.out.size (fun q hq hf => by have := G1.out q hf; omega)))
    have G4 : Hid (∀ k, Ft b v4 k → w.heap.size ≤ k) := hid (fun k hk => by rcases Ft_newer hs4.2.2 hk with h | h; exact G1.out k h; have := B3.out.size; omega)
    have D4 : Hid (∀ k, Ft b v4 k → ¬ Ft b' v' k) := hid (fun k hk hf => by
      rcases Ft_newer hs4.2.2 hk with h | h
      · have := D2.out k h; have := G2.out k hf; omega
      · have := M3.out.lt k hf; omega)
    clear hs4
    go_wp2_with fail
    refine (values_any b v4 _ _ L4.out (by simp; omega)).mono ?_
    rintro e w5 ⟨v5, rfl, hv5⟩
    obtain ⟨A5, c5, rfl, _, _⟩ := own_form hv5.1
    have V5 := hid hv5
    have M5 := hid (M4.out.below hv5.2.2)
    have L5 := hid (L4.out.below hv5.2.2)
    have B5 := hid (B4.out.trans (hv5.2.2.mono B4.out.size))
    clear hv5
    go_wp2_with fail
    refine (values_any b' v' _ _ M5.out (by simp; omega)).mono ?_
    rintro e w6 ⟨v6, rfl, hv6⟩
    obtain ⟨A6, c6, rfl, _, _⟩ := own_form hv6.1
    have V6 := hid hv6
    have M6 := hid (M5.out.below hv6.2.2)
    have L6 := hid (L5.out.below hv6.2.2)
    have B6 := hid (B5.out.trans (hv6.2.2.mono B5.out.size))
    clear hv6
    go_wp2_with fail
    refine (ints_true _ _ _ _ _ _ (List.replicate n x2) _ ?_ ?_ ?_).mono ?_
    · have h := (Rds.own V5.out.1 (S := Nn) (fun _ _ => id)).below V6.out.2.2
      rwa [List.length_replicate] at h
    · have h := Rds.own V6.out.1 (S := Nn) (fun _ _ => id)
      rwa [List.length_replicate] at h
    · omega
    rintro e w7 ⟨rfl, m7, rfl⟩
    have M7 := hid (M6.out.keep ((Chg.refl Nn _).drewN m7) (fun _ _ => id))
    have L7 := hid (L6.out.keep ((Chg.refl Nn _).drewN m7) (fun _ _ => id))
    have B7 := hid (pw_below_drewN B6.out m7)
    go_wp2_with fail
    refine (pushed_any b v4 _ _ _ x4 _ L7.out (H4.out.old (S := Ft b v4) B7.out G4.out) (by simp; omega) (by omega)).mono ?_
    rintro e w8 ⟨vo8, rfl, ho8, hg8, hs8⟩
    obtain ⟨Ao8, co8, rfl, _, _⟩ := own_form ho8
    have O8 := hid ho8
    have M8 := hid (M7.out.keep hs8.2.1 (fun k hk hf => D4.out k hf hk))
    have B8 := hid (B7.out.trans (hs8.2.1.below B7.out.size (fun q hq hf => by have := G4.out q hf; omega)))
    have G8 := hid hg8
    clear ho8 hg8 hs8
    go_wp2_with fail
    refine (pushed_any b' v' _ _ _ x4 _ M8.out (H4.out.old (S := Ft b' v') B8.out (fun k hk => by have := G2.out k hk; have := B1.out.size; omega)) (by simp; omega) (by omega)).mono ?_
    rintro e w9 ⟨vo9, rfl, ho9, hg9, hs9⟩
    obtain ⟨Ao9, co9, rfl, _, _⟩ := own_form ho9
    have O9 := hid ho9
    have P8 := hid (own_keep O8.out hs9.2.1 (fun g hg hf => by have := G8.out g hg; have := M7.out.lt g hf; omega))
    have B9 := hid (B8.out.trans (hs9.2.1.below B8.out.size (fun q hq hf => by have := G2.out q hf; have := B1.out.size; omega)))
    clear ho9 hg9 hs9
    go_wp2_with fail
    refine (ints_true _ _ _ _ _ _ (outs (List.replicate n x2) x4) _ ?_ ?_ ?_).mono ?_
    · exact Rds.own P8.out (S := Nn) (fun _ _ => id)
    · exact Rds.own O9.out (S := Nn) (fun _ _ => id)
    · omega
    rintro e wa ⟨rfl, ma, rfl⟩
    go_wp2_with fail
    refine (awake_any _).mono ?_
    rintro e wb ⟨rfl, hbb⟩
    have BB := hid hbb
    clear hbb
    go_wp2
    go_ret
    exact ⟨rfl, (pw_below_drewN B9.out ma).trans (BB.out.mono B9.out.size)⟩
end Go.Proofs.Ytlnbnankmafjaaa
