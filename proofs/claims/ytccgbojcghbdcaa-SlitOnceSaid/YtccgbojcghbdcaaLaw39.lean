/- Chapter 39: what the laws share. -/
import Derived.Test.YtccgbojcghbdcaaSl9
import Derived.Test.YtccgbojcghbdcaaSl3
namespace Go.Proofs.Ytccgbojcghbdcaa
open Go.RowKit

def ZS : List Int := [2400, 1600]
set_option maxRecDepth 100000 in
set_option maxHeartbeats 1000000 in
theorem deckle_any (w : World) : Calls Try.prog 30 #[] w fun e w' => ∃ g, e = .returned (.agg #[.int .i64 5000, .int .i64 50, .int .i64 900, .int .i64 4, .slice (some ⟨g, 0, none⟩) 2 2]) ∧ Rds Nn w' 1 (some ⟨g, 0, none⟩) 2 (ints ZS) ∧ Below w.heap.size w w' := by
  have D0 := hid (Blk.alloc (Blk.at_new w (b := w.heap.size) (t := 32) (cs := #[.int .i64 0, .int .i64 0, .int .i64 0, .int .i64 0, .slice none 0 0]) rfl) (.cells #[.int .i64 2400, .int .i64 1600] 3))
  have Z0 := hid (Blk.at_new (w.alloc (.cells #[.int .i64 0, .int .i64 0, .int .i64 0, .int .i64 0, .slice none 0 0] 32)) (b := w.heap.size + 1) (t := 3) (cs := #[.int .i64 2400, .int .i64 1600]) (by simp))
  have B0 := hid (((Below.refl w.heap.size w).alloc (Nat.le_refl _) (.cells #[.int .i64 0, .int .i64 0, .int .i64 0, .int .i64 0, .slice none 0 0] 32)).alloc (by simp) (.cells #[.int .i64 2400, .int .i64 1600] 3))
  go_enter Try.func30, Try.ntmps30
  go_wp2_with (refine wpList_store_blk2 (b := w.heap.size) (t := 32) (e := 32) (cs0 := #[.int .i64 0, .int .i64 0, .int .i64 0, .int .i64 0, .slice none 0 0]) (cs := #[.int .i64 5000, .int .i64 50, .int .i64 900, .int .i64 4, .slice (some ⟨(w.heap.size + 1), 0, none⟩) 2 2]) rfl rfl rfl rfl (by kernel_rfl) rfl (by simp [Value.oneCell']) D0.out ?_)
  refine bodyPost_ret (v := .agg #[.int .i64 5000, .int .i64 50, .int .i64 900, .int .i64 4, .slice (some ⟨(w.heap.size + 1), 0, none⟩) 2 2]) (results_cell rfl rfl (Blk.row D0.out _) Try.underlying32 rfl (by kernel_rfl)) rfl ?_
  exact ⟨_, rfl, arr_rds (l := ZS) (Blk.rowOther Z0.out (by omega) _) rfl, Below.row B0.out (Nat.le_refl _) _⟩
set_option linter.unusedSimpArgs false in
set_option maxRecDepth 100000 in
set_option maxHeartbeats 4000000 in
theorem set39_any (W L : Int) (a : Option Addr) (c n : Nat) (l : List (List Int)) (U K : Int) (w : World) (r : Rds Nn w 2 a n (ints l.flatten)) (t : ∀ s ∈ l, s.length = 2) (hn : n = l.length) (hl : n ≤ maxLen) : Calls Try.prog 19 #[.agg #[.int .i64 W, .int .i64 L, .slice a n c, .int .i64 U, .int .i64 K]] w (SetPost W L l U K w) := by
  have R1 := hid r
  have T := hid t
  have HN := hid hn
  clear r t hn
  have B0 := hid ((Below.refl w.heap.size w).alloc (Nat.le_refl _) (.cells #[.int .i64 W, .int .i64 L, .slice a n c, .int .i64 U, .int .i64 K] 36))
  have c0 := (Blk.at_new w (b := w.heap.size) (t := 36) (cs := #[.int .i64 W, .int .i64 L, .slice a n c, .int .i64 U, .int .i64 K]) rfl).cell
  go_enter Try.func19, Try.ntmps19
  go_wp2_with fail
  refine (set_any W L a c n l U K _ (R1.out.below B0.out) T.out HN.out hl).mono ?_
  rintro e w1 ⟨A, c1, vs, rfl, hr, hp, hb⟩
  have RR := hid hr
  have PP := hid hp
  have B1 := hid (B0.out.trans (hb.mono B0.out.size))
  clear hr hp hb
  go_wp2
  go_ret2
  exact ⟨A, c1, vs, rfl, RR.out, PP.out, B1.out⟩
set_option linter.unusedSimpArgs false in
set_option maxRecDepth 100000 in
set_option maxHeartbeats 4000000 in
theorem pick_any (x m : Int) (w : World) (h : 1 ≤ m ∧ m ≤ 1152921504606846976) : Calls Try.prog 27 #[.int .i64 x, .int .i64 m] w fun e w' => ∃ q, e = .returned (.int .i64 q) ∧ (0 ≤ q ∧ q < m) ∧ w' = w := by
  have h0 : ¬ (m = 0) := by omega
  have t1 := Int.tmod_lt_of_pos x (show 0 < m by omega)
  have t2 : -m < x.tmod m := by have := Int.lt_tmod_of_pos x (show 0 < m by omega); omega
  have wk : IntKind.i64.wrap (x.tmod m) = x.tmod m := IntWalk.i64_in _ (by omega)
  have wk2 : IntKind.i64.wrap (x.tmod m + m) = x.tmod m + m := IntWalk.i64_in _ (by omega)
  have t3 := Int.tmod_lt_of_pos (x.tmod m + m) (show 0 < m by omega)
  have t4 := Int.tmod_nonneg m (show 0 ≤ x.tmod m + m by omega)
  have wk3 : IntKind.i64.wrap ((x.tmod m + m).tmod m) = (x.tmod m + m).tmod m := IntWalk.i64_in _ (by omega)
  go_enter Try.func27, Try.ntmps27
  go_wp2
  go_ret
  exact ⟨_, rfl, ⟨Int.emod_nonneg _ (by omega), Int.emod_lt_of_pos _ (by omega)⟩, rfl⟩
theorem Rds.newAt (w : World) (b : Nat) (cs : Array Value) (xs : List Value) (t : TypeId) (n sz : Nat) (hb : b = w.heap.size) (hc : cs = xs.toArray) (hl : xs.length = n * sz) : Rds Nn (w.alloc (.cells cs t)) sz (some ⟨b, 0, none⟩) n xs := by
  subst hb hc
  refine ⟨hl, fun _ => ⟨_, rfl, by simp, id, fun j u hu => ?_⟩⟩
  rw [add_at, (Blk.new w t xs.toArray).cell]
  simpa using hu
def RR1 : List Ru := [(699, 200, true)]
def LL2 : List (List Int) := [[50, 2400], [2450, 1600]]
def TT2 : List (List Int) := [[0, 50], [4050, 950]]
def KK2 : List (List Int) := [[0, 60], [50, 20]]
def CC2 : List Ch := [(50, 2400, false, RR1), (2450, 1600, false, RR1)]
theorem aw_facts : ftErr 5000 50 900 4 ZS [1, 1] = 0 ∧ stripL 5000 50 900 4 ZS [1, 1] = LL2 ∧ slErr 5000 LL2 = 0 ∧ trimL 5000 LL2 = TT2 ∧ setErr 5000 1000 LL2 300 200 = 0 ∧ setL 5000 1000 LL2 300 200 = CC2 ∧ slErr 100 KK2 = 12 := by decide +kernel
theorem aw_place : plErr 2450 1600 RR1 10 0 = 0 ∧ plU 2450 1600 false RR1 10 0 = 2460 ∧ plV 2450 1600 RR1 10 0 = 699 ∧ plU 2450 1600 true RR1 10 0 = 4039 ∧ tuErr 2450 1600 RR1 = 0 := by decide +kernel
theorem aw_rows {w : World} {A : Option Addr} {vs : List Value} (h : Rds Nn w 4 A 2 vs) (hp : ChRow Nn w vs CC2) : ∃ (p o : Nat) (A0 A1 : Option Addr) (c0 c1 : Nat), A = some ⟨p, o, none⟩ ∧ Rds Nn w 3 A0 1 (cellsR RR1) ∧ Rds Nn w 3 A1 1 (cellsR RR1) ∧ ∀ W, Below w.heap.size w W → (W.cell? ⟨p, o, none⟩ = some (.int .i64 50) ∧ W.cell? ⟨p, o + 1, none⟩ = some (.int .i64 2400) ∧ W.cell? ⟨p, o + 2, none⟩ = some (.bool false) ∧ W.cell? ⟨p, o + 3, none⟩ = some (.slice A0 1 c0)) ∧ (W.cell? ⟨p, o + 4, none⟩ = some (.int .i64 2450) ∧ W.cell? ⟨p, o + 4 + 1, none⟩ = some (.int .i64 1600) ∧ W.cell? ⟨p, o + 4 + 2, none⟩ = some (.bool false) ∧ W.cell? ⟨p, o + 4 + 3, none⟩ = some (.slice A1 1 c1)) := by
  obtain ⟨p, o, l, d, t, m, A0, c0, hA, hm, r0, h0⟩ := chrow_at h hp rfl (k := 0) (by omega)
  obtain ⟨p', o', l', d', t', m', A1, c1, hA', hm', r1, h1⟩ := chrow_at h hp rfl (k := 1) (by omega)
  subst hA
  injection hA' with hA'
  injection hA' with e1 e2
  subst e1 e2
  simp [CC2] at hm hm'
  obtain ⟨rfl, rfl, rfl, rfl⟩ := hm
  obtain ⟨rfl, rfl, rfl, rfl⟩ := hm'
  exact ⟨p, o, A0, A1, c0, c1, rfl, r0, r1, fun W hW => ⟨by simpa [RR1] using h0 W hW, by simpa [RR1] using h1 W hW⟩⟩
set_option linter.unusedSimpArgs false in
set_option maxRecDepth 100000 in
set_option maxHeartbeats 16000000 in
theorem awake_any (w : World) : Calls Try.prog 11 #[] w fun e w' => e = .returned (.bool true) ∧ Below w.heap.size w w' := by
  have F := hid aw_facts
  have FP := hid aw_place
  have B0 := hid (Below.refl w.heap.size w)
  go_enter Try.func11, Try.ntmps11
  go_wp2_with fail
  refine (deckle_any _).mono ?_
  rintro e w1 ⟨g1, rfl, hz, hb⟩
  have Z1 := hid hz
  clear hz
  have B1 := hid (B0.out.trans (hb.mono B0.out.size))
  clear hb
  go_wp2_with fail
  have Y1 := hid (Rds.newAt w1 w1.heap.size #[.int .i64 1, .int .i64 1] (ints [1, 1]) 3 2 1 rfl rfl rfl)
  have C1 := hid (Below.alloc B1.out B1.out.size (.cells #[.int .i64 1, .int .i64 1] 3))
  refine (strips_any 5000 50 900 4 (some ⟨g1, 0, none⟩) (some ⟨w1.heap.size, 0, none⟩) 2 2 2 2 ZS [1, 1] _ (Z1.out.below ((Below.refl _ _).alloc (Nat.le_refl _) _)) Y1.out rfl rfl (by decide) (by decide)).mono ?_
  rintro e w2 ⟨A2, c2, rfl, hr, hb⟩
  rw [F.out.2.1] at hr ⊢
  rw [F.out.1]
  have RL := hid hr
  have B2 := hid (C1.out.trans (hb.mono C1.out.size))
  have E2 := hid (Below.refl w2.heap.size w2)
  clear hb hr C1 Y1 Z1 B0 B1
  go_wp2_with fail
  refine (trim_any 5000 A2 c2 2 LL2 _ RL.out (by decide) rfl (by decide)).mono ?_
  rintro e w3 ⟨A3, c3, rfl, hr, hb⟩
  rw [F.out.2.2.2.1] at hr ⊢
  rw [F.out.2.2.1]
  have RT := hid hr
  have B3 := hid (B2.out.trans (hb.mono B2.out.size))
  have E3 := hid (E2.out.trans (hb.mono E2.out.size))
  clear hb hr
  go_wp2_with fail
  refine (set_any 5000 1000 A2 c2 2 LL2 300 200 _ (RL.out.below E3.out) (by decide) rfl (by decide)).mono ?_
  rintro e w4 ⟨A4, c4, vs, rfl, hr, hp, hb⟩
  rw [F.out.2.2.2.2.2.1] at hr hp ⊢
  rw [F.out.2.2.2.2.1]
  obtain ⟨p, o, A5, A6, c5, c6, rfl, ra, rb, hc⟩ := aw_rows hr hp
  have CL := hid hc
  have RA := hid ra
  have RB := hid rb
  have B4 := hid (B3.out.trans (hb.mono B3.out.size))
  have E4 := hid (E3.out.trans (hb.mono E3.out.size))
  have G4 := hid (hb)
  have H4 := hid (Below.refl w4.heap.size w4)
  clear hb hr hp hc ra rb
  go_wp2_with fail
  have Y4 := hid (Rds.newAt w4 w4.heap.size #[.int .i64 0, .int .i64 60, .int .i64 50, .int .i64 20] (ints KK2.flatten) 57 2 2 rfl rfl rfl)
  have X4 := hid (Below.alloc H4.out H4.out.size (.cells #[.int .i64 0, .int .i64 60, .int .i64 50, .int .i64 20] 57))
  refine (scheck_any 100 (some ⟨w4.heap.size, 0, none⟩) 2 2 KK2 _ Y4.out (by decide) rfl (by decide)).mono ?_
  rintro e w5 ⟨rfl, hb⟩
  rw [F.out.2.2.2.2.2.2]
  have H5 := hid (X4.out.trans (hb.mono X4.out.size))
  clear hb X4 Y4
  obtain ⟨⟨_, _, _, _⟩, e1, e2, e3, e4⟩ := CL.out _ H5.out
  go_wp2_with fail
  refine (place_any 2450 1600 false A6 c6 1 RR1 _ (RB.out.below H5.out) rfl (by decide) 10 0).mono ?_
  rintro e w6 ⟨rfl, hb⟩
  rw [FP.out.1, FP.out.2.1, FP.out.2.2.1]
  have H6 := hid (H5.out.trans (hb.mono H5.out.size))
  clear hb e1 e2 e3 e4
  obtain ⟨⟨_, _, _, _⟩, e1, e2, e3, e4⟩ := CL.out _ H6.out
  go_wp2_with fail
  refine (turned_any 2450 1600 false A6 c6 1 RR1 _ (RB.out.below H6.out) rfl (by decide)).mono ?_
  rintro e w7 ⟨hcase, hb⟩
  rcases hcase with ⟨hz, _⟩ | ⟨_, A8, c8, rfl, hr⟩
  · exact absurd FP.out.2.2.2.2 hz
  have RU := hid hr
  have H7 := hid (H6.out.trans (hb.mono H6.out.size))
  clear hb hr e1 e2 e3 e4
  have DZ := hid (Blk.at_new w7 (b := w7.heap.size) (t := 47) (cs := #[.int .i64 2450, .int .i64 1600, .bool (!false), .slice A8 1 c8]) rfl)
  have H8 := hid (H7.out.alloc H7.out.size (.cells #[.int .i64 2450, .int .i64 1600, .bool (!false), .slice A8 1 c8] 47))
  go_wp2_with (refine wpList_load_blk2 (t := 47) rfl rfl rfl Try.underlying47 rfl (by kernel_rfl) DZ.out ?_)
  refine (place_any 2450 1600 true A8 c8 1 RR1 _ (RU.out.allocK' _) rfl (by decide) 10 0).mono ?_
  rintro e w9 ⟨rfl, hb⟩
  rw [FP.out.1, FP.out.2.2.2.1, FP.out.2.2.1]
  have H9 := hid (H8.out.trans (hb.mono H8.out.size))
  clear hb DZ RU
  go_wp2_with fail
  have Y9 := hid (Rds.newAt w9 w9.heap.size #[.int .i64 50, .int .i64 2400, .int .i64 2450, .int .i64 1600] (ints LL2.flatten) 57 2 2 rfl rfl rfl)
  have X9 := hid (Below.alloc H9.out H9.out.size (.cells #[.int .i64 50, .int .i64 2400, .int .i64 2450, .int .i64 1600] 57))
  refine (same2_any A2 (some ⟨w9.heap.size, 0, none⟩) c2 2 2 2 LL2 LL2 _ (RL.out.below (E4.out.trans (X9.out.mono E4.out.size))) Y9.out (by decide) (by decide) rfl rfl (by decide)).mono ?_
  rintro e wa ⟨rfl, hb⟩
  have HA := hid (X9.out.trans (hb.mono X9.out.size))
  clear hb X9 Y9
  go_wp2_with fail
  have Ya := hid (Rds.newAt wa wa.heap.size #[.int .i64 0, .int .i64 50, .int .i64 4050, .int .i64 950] (ints TT2.flatten) 57 2 2 rfl rfl rfl)
  have Xa := hid (Below.alloc HA.out HA.out.size (.cells #[.int .i64 0, .int .i64 50, .int .i64 4050, .int .i64 950] 57))
  refine (same2_any A3 (some ⟨wa.heap.size, 0, none⟩) c3 2 2 2 TT2 TT2 _ (RT.out.below (G4.out.trans (Xa.out.mono G4.out.size))) Ya.out (by decide) (by decide) rfl rfl (by decide)).mono ?_
  rintro e wb ⟨rfl, hb⟩
  have HB := hid (Xa.out.trans (hb.mono Xa.out.size))
  clear hb Xa Ya
  obtain ⟨⟨e1, e2, e3, e4⟩, _⟩ := CL.out _ HB.out
  go_wp2_with fail
  have Yb := hid (Rds.newAt wb wb.heap.size #[.int .i64 699, .int .i64 200, .bool true] (cellsR RR1) 69 1 3 rfl rfl rfl)
  have Xb := hid (Below.alloc HB.out HB.out.size (.cells #[.int .i64 699, .int .i64 200, .bool true] 69))
  refine (child_any 50 2400 50 2400 false false A5 (some ⟨wb.heap.size, 0, none⟩) c5 1 1 1 RR1 RR1 _ (RA.out.below Xb.out) Yb.out rfl rfl (by decide)).mono ?_
  rintro e wc ⟨rfl, hb⟩
  have HC := hid (Xb.out.trans (hb.mono Xb.out.size))
  clear hb Xb Yb
  go_wp2
  go_ret
  exact ⟨rfl, B4.out.trans (HC.out.mono B4.out.size)⟩
end Go.Proofs.Ytccgbojcghbdcaa
