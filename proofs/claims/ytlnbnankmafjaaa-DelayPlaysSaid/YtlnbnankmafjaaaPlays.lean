/- The statement DelayPlays, walked. -/
import Derived.Test.YtlnbnankmafjaaaLaw24
import Derived.Test.YtlnbnankmafjaaaResets
import Derived.Test.YtlnbnankmafjaaaOpen
import Derived.Deep.RegionHeld3
import Derived.Deep.DeepCutAuto
namespace Go.Proofs.Ytlnbnankmafjaaa
open Go.RowKit

/-- The state of a round: two lines apart, in new memory, that keep the same. -/
structure Two (w wr : World) (b : Nat) (v : Value) (b' : Nat) (v' : Value) (xs : List Int) : Prop where
  l : Ln 50 wr b v xs
  m : Ln 52 wr b' v' xs
  gl : ∀ k, Ft b v k → w.heap.size ≤ k
  gm : ∀ k, Ft b' v' k → w.heap.size ≤ k
  d : ∀ k, Ft b v k → ¬ Ft b' v' k
  len : xs.length ≤ 32
  bel : Below w.heap.size w wr
theorem Two.stepL {w wr w1 : World} {b b' : Nat} {v v' v1 : Value} {xs ys : List Int} (h : Two w wr b v b' v' xs) (hs : Step 50 wr w1 b v v1 ys) :
    Ln 52 w1 b' v' xs ∧ Ln 50 w1 b v1 ys ∧ (∀ k, Ft b v1 k → w.heap.size ≤ k) ∧ (∀ k, Ft b v1 k → ¬ Ft b' v' k) ∧ Below w.heap.size w w1 := by
  refine ⟨h.m.keep hs.2.1 (fun k hk hf => h.d k hf hk), hs.1, fun k hk => ?_, fun k hk hf => ?_, h.bel.trans (hs.2.1.below h.bel.size (fun q hq hf => by have := h.gl q hf; omega))⟩
  · rcases Ft_newer hs.2.2 hk with h1 | h1
    · exact h.gl k h1
    · have := h.bel.size; omega
  · rcases Ft_newer hs.2.2 hk with h1 | h1
    · exact h.d k h1 hf
    · have := h.m.lt k hf; omega
theorem Two.step {w wr w1 w2 : World} {b b' : Nat} {v v' v1 v2 : Value} {xs ys : List Int} (h : Two w wr b v b' v' xs) (hs : Step 50 wr w1 b v v1 ys) (ht : Step 52 w1 w2 b' v' v2 ys) (hl : ys.length ≤ 32) :
    Two w w2 b v1 b' v2 ys := by
  obtain ⟨h1, h2, h3, h4, h5⟩ := h.stepL hs
  refine ⟨h2.keep ht.2.1 (fun k hk hf => h4 k hk hf), ht.1, h3, fun k hk => ?_, fun k hk hf => ?_, hl, h5.trans (ht.2.1.below h5.size (fun q hq hf => by have := h.gm q hf; omega))⟩
  · rcases Ft_newer ht.2.2 hk with h1 | h1
    · exact h.gm k h1
    · have := h5.size; omega
  · rcases Ft_newer ht.2.2 hf with g | g
    · exact h4 k hk g
    · have := h2.lt k hk; omega
theorem Two.copy {w wr w1 w2 : World} {b b' c c' : Nat} {v v' u u' : Value} {xs : List Int} (h : Two w wr b v b' v' xs) (hs : New 50 wr w1 c u xs) (ht : New 52 w1 w2 c' u' xs) : Two w w2 c u c' u' xs := by
  have h1 := hs.2.2.size
  have h2 := h.bel.size
  have h3 := ht.2.2.size
  exact ⟨hs.1.below ht.2.2, ht.1, fun k hk => by have := hs.2.1 k hk; omega, fun k hk => by have := ht.2.1 k hk; omega, fun k hk hf => by have := ht.2.1 k hf; have := hs.1.lt k hk; omega, h.len, (h.bel.trans (hs.2.2.mono h2)).trans (ht.2.2.mono (by omega))⟩
theorem Two.below {w wr w1 : World} {b b' : Nat} {v v' : Value} {xs : List Int} (h : Two w wr b v b' v' xs) (hb : Below wr.heap.size wr w1) : Two w w1 b v b' v' xs :=
  ⟨h.l.below hb, h.m.below hb, h.gl, h.gm, h.d, h.len, h.bel.trans (hb.mono h.bel.size)⟩
theorem push_len (xs : List Int) (x : Int) : (pushOf xs x).length = xs.length := by simp [pushOf]

theorem cells2 {w : World} {A : Option Addr} {n k : Nat} {rs : List (List Int)} (h : Rds Nn w 2 A n (ints rs.flatten)) (hl : ∀ r ∈ rs, r.length = 2) (hk : k < rs.length) (hn : rs.length = n) :
    ∃ (b o : Nat) (x y : Int), A = some ⟨b, o, none⟩ ∧ w.cell? ⟨b, o + k * 2, none⟩ = some (.int .i64 x) ∧ w.cell? ⟨b, o + k * 2 + 1, none⟩ = some (.int .i64 y) ∧ b < w.heap.size := by
  obtain ⟨b, o, rfl, hb, _, hx⟩ := h.plain (by omega) (by omega)
  have hr := hl rs[k] (by simp)
  have e0 : rs.flatten[k * 2]? = some (rs[k][0]'(by omega)) := by
    rw [flatten_get 2 (by omega) rs hl]
    have h1 : k * 2 / 2 = k := by omega
    have h2 : k * 2 % 2 = 0 := by omega
    rw [h1, h2, List.getElem?_eq_getElem hk]
    simp [List.getElem?_eq_getElem (show 0 < rs[k].length by omega)]
  have e1 : rs.flatten[k * 2 + 1]? = some (rs[k][1]'(by omega)) := by
    rw [flatten_get 2 (by omega) rs hl]
    have h1 : (k * 2 + 1) / 2 = k := by omega
    have h2 : (k * 2 + 1) % 2 = 1 := by omega
    rw [h1, h2, List.getElem?_eq_getElem hk]
    simp [List.getElem?_eq_getElem (show 1 < rs[k].length by omega)]
  exact ⟨b, o, _, _, rfl, hx _ _ (by rw [ints_get, e0]; rfl), by rw [Nat.add_assoc]; exact hx _ _ (by rw [ints_get, e1]; rfl), hb⟩

set_option maxRecDepth 100000 in
set_option maxHeartbeats 2000000 in
theorem delayPlays_walk (x0 : Int) (x1 : Int) (a2 : Option Addr) (c2 : Nat) (x2 : List (List Int)) (w : World) (_h0 : (Lit.int .i64 x0).wf = true) (_h1 : (Lit.int .i64 x1).wf = true) (h2 : Rds Nn w 2 a2 x2.length (ints x2.flatten)) (g2 : x2.length ≤ c2 ∧ c2 ≤ maxLen ∧ (a2 = none → x2.length = 0 ∧ c2 = 0)) (i2 : ∀ r ∈ x2, r.length = 2 ∧ ∀ n ∈ r, (Lit.int .i64 n).wf = true) :
    Calls Try.prog 7 #[.int .i64 x0, .int .i64 x1, .slice a2 x2.length c2] w fun e w' => e = .returned (.bool true) ∧ Below w.heap.size w w' := by
  have hm : x2.length ≤ 9223372036854775807 := by have := g2.1; have := g2.2.1; unfold maxLen at this; omega
  by_cases q1 : 200 < x2.length
  · have fin : ∀ W : World, Calls Try.prog 9 #[] W fun e w' => e = .returned (.bool true) ∧ Below W.heap.size W w' := awake_any
    have HF := hid fin
    clear fin h2 g2 i2
    go_enter Try.func7, Try.ntmps7
    go_wp2_with (go_at_call 9; refine (HF.out _).mono ?_; rintro e w2 ⟨rfl, hb2⟩)
    go_ret
    exact ⟨rfl, hb2⟩
  · have q2 : x2.length ≤ 200 := by omega
    clear q1
    have H2 := hid h2
    have I2 := hid (fun r hr => (i2 r hr).1)
    clear h2 g2 i2
    by_cases hq : 0 ≤ x0 ∧ x0 ≤ 32
    · obtain ⟨q3, q4⟩ := hq
      go_enter Try.func7, Try.ntmps7
      go_wp2_with fail
      refine (new_any x0 x1 _ ⟨q3, q4⟩).mono ?_
      rintro e w1 ⟨b, v, rfl, hn⟩
      have N1 := hid hn
      clear hn
      go_wp2_with fail
      refine (rnew_any x0 x1 _ ⟨q3, q4⟩).mono ?_
      rintro e w3 ⟨b', v', rfl, hn⟩
      have ht : Two w w3 b v b' v' (List.replicate x0.toNat x1) := by
        have h1 := N1.out.2.2.size
        have h3 := hn.2.2.size
        exact ⟨N1.out.1.below hn.2.2, hn.1, N1.out.2.1, fun k hk => by have := hn.2.1 k hk; omega, fun k hk hf => by have := hn.2.1 k hf; have := N1.out.1.lt k hk; omega, by simp; omega, N1.out.2.2.trans (hn.2.2.mono h1)⟩
      have HT := hid ht
      clear hn ht N1
      go_wp2
      go_loopw [7, 9, 11] (fun pa pb i wr => ∃ (k b b' : Nat) (v v' : Value) (xs : List Int), k ≤ x2.length ∧ i = .int .i64 k ∧ pa = .pointer (some ⟨b, 0, none⟩) ∧ pb = .pointer (some ⟨b', 0, none⟩) ∧ Two w wr b v b' v' xs) (fun _ _ i _ => x2.length - (intOf i).toNat)
      case atStart => exact ⟨0, b, b', v, v', _, Nat.zero_le _, rfl, rfl, rfl, HT.out⟩
      case round =>
        clear HT
        obtain ⟨k, b, b', v, v', xs, hk, rfl, rfl, rfl, ht⟩ := hrel
        have HT := hid ht
        clear ht
        by_cases hlt : k < x2.length
        · obtain ⟨bb, o, x, y, rfl, e0, e1, hbl⟩ := cells2 H2.out I2.out hlt rfl
          have c0 := (HT.out.bel.cell (p := ⟨bb, o + k * 2, none⟩) hbl).trans e0
          have c1 := (HT.out.bel.cell (p := ⟨bb, o + k * 2 + 1, none⟩) hbl).trans e1
          have i1 : ((k : Nat) : Int) < (x2.length : Int) := by omega
          by_cases d0 : x = 0
          · subst d0
            go_wp2_with fail
            refine (push_any b v xs y _ HT.out.l (by have := HT.out.len; omega)).mono ?_
            rintro e w3 ⟨rfl, hs⟩
            have S3 := hid hs
            have M3 := hid (HT.out.stepL hs).1
            have B3 := hid (HT.out.stepL hs).2.2.2.2
            have c3 := (B3.out.cell (p := ⟨bb, o + k * 2 + 1, none⟩) hbl).trans e1
            clear hs
            go_wp2_with fail
            refine (rpush_any b' v' xs y _ M3.out (by have := HT.out.len; omega)).mono ?_
            rintro e w4 ⟨v4, rfl, hs⟩
            have T4 := hid (HT.out.step S3.out hs (by rw [push_len]; exact HT.out.len))
            clear hs
            have k1 : (outOf xs y != outOf xs y) = false := by simp
            go_wp2_with fail
            refine (values_any b v _ _ T4.out.l (by have := T4.out.len; omega)).mono ?_
            rintro e w5 ⟨v5, rfl, hv5⟩
            obtain ⟨A5, c5, rfl, _, _⟩ := own_form hv5.1
            have V5 := hid hv5
            have T5 := hid (T4.out.below hv5.2.2)
            clear hv5
            go_wp2_with fail
            refine (rvalues_any b' v4 _ _ T5.out.m (by have := T4.out.len; omega)).mono ?_
            rintro e w6 ⟨v6, rfl, hv6⟩
            obtain ⟨A6, c6, rfl, _, _⟩ := own_form hv6.1
            have V6 := hid hv6
            have T6 := hid (T5.out.below hv6.2.2)
            clear hv6
            go_wp2_with fail
            refine (ints_true _ _ _ _ _ _ (pushOf xs y) _ ?_ ?_ ?_).mono ?_
            · exact (Rds.own V5.out.1 (S := Nn) (fun _ _ => id)).below V6.out.2.2
            · exact Rds.own V6.out.1 (S := Nn) (fun _ _ => id)
            · have := T4.out.len; omega
            rintro e w7 ⟨rfl, m7, rfl⟩
            have T7 := hid (T6.out.below (pw_below_drewN (Below.refl _ _) m7))
            go_wp2
            go_roundw
            case rel => exact ⟨k + 1, b, b', v, v4, _, by omega, by go_num, rfl, rfl, T7.out⟩
            case measure => simp [intOf]; omega
          · have d0' : (x == 0) = false := by simpa using d0
            clear d0
            by_cases d1 : x = 1
            · subst d1
              go_wp2
              go_region_held3 (fun w' => w'.cell? ⟨bb, o + k * 2 + 1, none⟩ = some (.int .i64 y)) (first | exact c1 | exact c3 | exact c4) (first
                | (go_at_call 16; refine (reset_any b v xs y _ ?_ ?_).mono ?_; exact HT.out.l.keep ((Chg.refl Nn _).drewN 1) (fun _ _ => id); (have := HT.out.len; omega); rintro e w3 ⟨v3, rfl, hs⟩; have S3 := hid hs; have M3 := hid ((HT.out.below (pw_below_drewN (Below.refl _ _) 1)).stepL hs).1; have B3 := hid ((HT.out.below (pw_below_drewN (Below.refl _ _) 1)).stepL hs).2.2.2.2; have c3 := (B3.out.cell (p := ⟨bb, o + k * 2 + 1, none⟩) hbl).trans e1; clear hs)
                | (go_at_call 19; refine (rreset_any b' v' xs y _ ?_ ?_).mono ?_; exact M3.out; (have := HT.out.len; omega); rintro e w4 ⟨v4, rfl, hs⟩; have T4 := hid ((HT.out.below (pw_below_drewN (Below.refl _ _) 1)).step S3.out hs (by rw [List.length_replicate]; exact HT.out.len)); have c4 := (T4.out.bel.cell (p := ⟨bb, o + k * 2 + 1, none⟩) hbl).trans e1; clear hs))
              have k1 : ((0 : Int) != 0) = false := by simp
              go_wp2_with fail
              refine (values_any b v3 _ _ T4.out.l (by have := T4.out.len; omega)).mono ?_
              rintro e w5 ⟨v5, rfl, hv5⟩
              obtain ⟨A5, c5, rfl, _, _⟩ := own_form hv5.1
              have V5 := hid hv5
              have T5 := hid (T4.out.below hv5.2.2)
              clear hv5
              go_wp2_with fail
              refine (rvalues_any b' v4 _ _ T5.out.m (by have := T5.out.len; omega)).mono ?_
              rintro e w6 ⟨v6, rfl, hv6⟩
              obtain ⟨A6, c6, rfl, _, _⟩ := own_form hv6.1
              have V6 := hid hv6
              have T6 := hid (T5.out.below hv6.2.2)
              clear hv6
              go_wp2_with fail
              refine (ints_true _ _ _ _ _ _ (List.replicate xs.length y) _ ?_ ?_ ?_).mono ?_
              · have h := (Rds.own V5.out.1 (S := Nn) (fun _ _ => id)).below V6.out.2.2
                rwa [List.length_replicate] at h
              · have h := Rds.own V6.out.1 (S := Nn) (fun _ _ => id)
                rwa [List.length_replicate] at h
              · have := HT.out.len; omega
              rintro e w7 ⟨rfl, m7, rfl⟩
              have T7 := hid (T6.out.below (pw_below_drewN (Below.refl _ _) m7))
              go_wp2
              go_roundw
              case rel => exact ⟨k + 1, b, b', v3, v4, _, by omega, by go_num, rfl, rfl, T7.out⟩
              case measure => simp [intOf]; omega
            · have d1' : (x == 1) = false := by simpa using d1
              clear d1
              by_cases d2 : x = 2
              · subst d2
                go_wp2_with fail
                refine (copy_any b v xs _ HT.out.l (by have := HT.out.len; omega)).mono ?_
                rintro e w3 ⟨u, v3, rfl, hs⟩
                have S3 := hid hs
                have M3 := hid (HT.out.m.below hs.2.2)
                clear hs
                go_wp2_with fail
                refine (rcopy_any b' v' xs _ M3.out (by have := HT.out.len; omega)).mono ?_
                rintro e w4 ⟨u', v4, rfl, hs⟩
                have T4 := hid (HT.out.copy S3.out hs)
                clear hs
                go_wp2_with fail
                refine (values_any u v3 _ _ T4.out.l (by have := T4.out.len; omega)).mono ?_
                rintro e w5 ⟨v5, rfl, hv5⟩
                obtain ⟨A5, c5, rfl, _, _⟩ := own_form hv5.1
                have V5 := hid hv5
                have T5 := hid (T4.out.below hv5.2.2)
                clear hv5
                go_wp2_with fail
                refine (rvalues_any u' v4 _ _ T5.out.m (by have := T5.out.len; omega)).mono ?_
                rintro e w6 ⟨v6, rfl, hv6⟩
                obtain ⟨A6, c6, rfl, _, _⟩ := own_form hv6.1
                have V6 := hid hv6
                have T6 := hid (T5.out.below hv6.2.2)
                clear hv6
                go_wp2_with fail
                refine (ints_true _ _ _ _ _ _ xs _ ?_ ?_ ?_).mono ?_
                · exact (Rds.own V5.out.1 (S := Nn) (fun _ _ => id)).below V6.out.2.2
                · exact Rds.own V6.out.1 (S := Nn) (fun _ _ => id)
                · have := T6.out.len; omega
                rintro e w7 ⟨rfl, m7, rfl⟩
                have T7 := hid (T6.out.below (pw_below_drewN (Below.refl _ _) m7))
                go_wp2
                go_roundw
                case rel => exact ⟨k + 1, u, u', v3, v4, _, by omega, by go_num, rfl, rfl, T7.out⟩
                case measure => simp [intOf]; omega
              · have d2' : (x == 2) = false := by simpa using d2
                clear d2
                go_wp2_with fail
                refine (values_any b v _ _ HT.out.l (by have := HT.out.len; omega)).mono ?_
                rintro e w5 ⟨v5, rfl, hv5⟩
                obtain ⟨A5, c5, rfl, _, _⟩ := own_form hv5.1
                have V5 := hid hv5
                have T5 := hid (HT.out.below hv5.2.2)
                clear hv5
                go_wp2_with fail
                refine (rvalues_any b' v' _ _ T5.out.m (by have := T5.out.len; omega)).mono ?_
                rintro e w6 ⟨v6, rfl, hv6⟩
                obtain ⟨A6, c6, rfl, _, _⟩ := own_form hv6.1
                have V6 := hid hv6
                have T6 := hid (T5.out.below hv6.2.2)
                clear hv6
                go_wp2_with fail
                refine (ints_true _ _ _ _ _ _ xs _ ?_ ?_ ?_).mono ?_
                · exact (Rds.own V5.out.1 (S := Nn) (fun _ _ => id)).below V6.out.2.2
                · exact Rds.own V6.out.1 (S := Nn) (fun _ _ => id)
                · have := T6.out.len; omega
                rintro e w7 ⟨rfl, m7, rfl⟩
                have T7 := hid (T6.out.below (pw_below_drewN (Below.refl _ _) m7))
                go_wp2
                go_roundw
                case rel => exact ⟨k + 1, b, b', v, v', _, by omega, by go_num, rfl, rfl, T7.out⟩
                case measure => simp [intOf]; omega
        · have hkn : k = x2.length := by omega
          clear hkn
          go_wp2_with fail
          refine (awake_any _).mono ?_
          rintro e wb ⟨rfl, hbb⟩
          have BB := hid hbb
          clear hbb
          go_wp2
          go_ret
          exact ⟨rfl, HT.out.bel.trans (BB.out.mono HT.out.bel.size)⟩
    · have hn : x0 < 0 ∨ 32 < x0 := by omega
      have HN := hid hn
      clear hq hn
      have k1 : ((1 : Int) != 1) = false := by simp
      go_enter Try.func7, Try.ntmps7
      go_wp2_with fail
      refine (new_no x0 x1 _ HN.out).mono ?_
      rintro e w1 ⟨rfl, hn⟩
      have N1 := hid hn
      clear hn
      go_wp2_with fail
      refine (rnew_no x0 x1 _ HN.out).mono ?_
      rintro e w3 ⟨rfl, hn⟩
      have N3 := hid (N1.out.trans (hn.mono N1.out.size))
      clear hn
      go_wp2_with fail
      refine (awake_any _).mono ?_
      rintro e wb ⟨rfl, hbb⟩
      have BB := hid hbb
      clear hbb
      go_wp2
      go_ret
      exact ⟨rfl, N3.out.trans (BB.out.mono N3.out.size)⟩
end Go.Proofs.Ytlnbnankmafjaaa
