/- Chapter 38: what the laws share. -/
import Derived.Test.YtclmjllngcndbaaPn11
namespace Go.Proofs.Ytclmjllngcndbaa
open Go.RowKit

def ZS : List Int := [2400, 1600]
set_option maxRecDepth 100000 in
set_option maxHeartbeats 1000000 in
theorem deckle_any (w : World) : Calls Try.prog 27 #[] w fun e w' => ∃ g, e = .returned (.agg #[.int .i64 5000, .int .i64 50, .int .i64 900, .int .i64 4, .slice (some ⟨g, 0, none⟩) 2 2]) ∧ Rds Nn w' 1 (some ⟨g, 0, none⟩) 2 (ints ZS) ∧ Below w.heap.size w w' := by
  have D0 := hid (Blk.alloc (Blk.at_new w (b := w.heap.size) (t := 24) (cs := #[.int .i64 0, .int .i64 0, .int .i64 0, .int .i64 0, .slice none 0 0]) rfl) (.cells #[.int .i64 2400, .int .i64 1600] 3))
  have Z0 := hid (Blk.at_new (w.alloc (.cells #[.int .i64 0, .int .i64 0, .int .i64 0, .int .i64 0, .slice none 0 0] 24)) (b := w.heap.size + 1) (t := 3) (cs := #[.int .i64 2400, .int .i64 1600]) (by simp))
  have B0 := hid (((Below.refl w.heap.size w).alloc (Nat.le_refl _) (.cells #[.int .i64 0, .int .i64 0, .int .i64 0, .int .i64 0, .slice none 0 0] 24)).alloc (by simp) (.cells #[.int .i64 2400, .int .i64 1600] 3))
  go_enter Try.func27, Try.ntmps27
  go_wp2_with (refine wpList_store_blk2 (b := w.heap.size) (t := 24) (e := 24) (cs0 := #[.int .i64 0, .int .i64 0, .int .i64 0, .int .i64 0, .slice none 0 0]) (cs := #[.int .i64 5000, .int .i64 50, .int .i64 900, .int .i64 4, .slice (some ⟨(w.heap.size + 1), 0, none⟩) 2 2]) rfl rfl rfl rfl (by kernel_rfl) rfl (by simp [Value.oneCell']) D0.out ?_)
  refine bodyPost_ret (v := .agg #[.int .i64 5000, .int .i64 50, .int .i64 900, .int .i64 4, .slice (some ⟨(w.heap.size + 1), 0, none⟩) 2 2]) (results_cell rfl rfl (Blk.row D0.out _) Try.underlying24 rfl (by kernel_rfl)) rfl ?_
  exact ⟨_, rfl, arr_rds (l := ZS) (Blk.rowOther Z0.out (by omega) _) rfl, Below.row B0.out (Nat.le_refl _) _⟩
theorem aw_facts : chkErr 5000 50 900 4 ZS = 0 ∧ pats 5000 50 900 4 ZS = [[2, 0], [1, 1], [0, 3]] ∧ ftErr 5000 50 900 4 ZS [1, 1] = 0 ∧ ftErr 5000 50 900 4 ZS [0, 3] = 0 ∧ ftErr 5000 50 900 4 ZS [2, 0] = 0 ∧ ftErr 5000 50 900 4 ZS [1, 0] = 24 ∧ ftErr 5000 50 900 4 ZS [2, 1] = 20 ∧ lfV 5000 50 900 4 ZS [1, 1] = 900 ∧ mxV 5000 50 900 4 ZS [2, 0] = true := by decide +kernel
theorem aw_all : allV 5000 50 900 4 ZS = [[2, 0], [1, 1], [0, 3]] := by
  unfold allV
  rw [if_pos aw_facts.1, aw_facts.2.1]
theorem aw_idx {x : Int} (h : ∃ i : Nat, x = i ∧ (pats 5000 50 900 4 ZS)[i]? = some [0, 3]) : x = 2 := by
  obtain ⟨i, rfl, hi⟩ := h
  have := pats_at hi (j := 2) (by rw [aw_facts.2.1]; rfl)
  subst this
  rfl
/-- Two numbers in a new block. -/
theorem two_new (w : World) (x y : Int) (t : TypeId) : Rds Nn (w.alloc (.cells #[.int .i64 x, .int .i64 y] t)) 1 (some ⟨w.heap.size, 0, none⟩) 2 (ints [x, y]) := arr_rds (l := [x, y]) (Blk.at_new w rfl) rfl
set_option maxRecDepth 100000 in
set_option maxHeartbeats 8000000 in
theorem awake_any (w : World) : Calls Try.prog 11 #[] w fun e w' => e = .returned (.bool true) ∧ Below w.heap.size w w' := by
  obtain ⟨h1, h2, h3, h4, h5, h6, h7, h8, h9⟩ := aw_facts
  have H := hid (And.intro h1 (And.intro h3 (And.intro h4 (And.intro h5 (And.intro h6 (And.intro h7 (And.intro h8 h9)))))))
  clear h1 h2 h3 h4 h5 h6 h7 h8 h9
  have B0 := hid (Below.refl w.heap.size w)
  go_enter Try.func11, Try.ntmps11
  go_wp2_with fail
  refine (deckle_any _).mono ?_
  rintro e w1 ⟨g1, rfl, hz, hb⟩
  have Z1 := hid hz
  have B1 := hid (B0.out.trans (hb.mono B0.out.size))
  clear hz hb
  go_wp2_with fail
  refine (all1_any 5000 50 900 4 (some ⟨g1, 0, none⟩) 2 2 ZS _ Z1.out rfl (by decide)).mono ?_
  rintro e w2 ⟨A, cap, vs, rfl, hr, hp, hb⟩
  rw [aw_all] at hr hp ⊢
  rw [H.out.1]
  have RU := hid hr
  have PU := hid hp
  have B2 := hid (B1.out.trans (hb.mono B1.out.size))
  clear hr hp hb
  have E22 := hid (Below.refl w2.heap.size w2)
  go_wp2_with fail
  refine (deckle_any _).mono ?_
  rintro e w3 ⟨g3, rfl, hz, hb⟩
  have Z3 := hid hz
  have B3 := hid (B2.out.trans (hb.mono B2.out.size))
  have E23 := hid (E22.out.trans (hb.mono E22.out.size))
  clear hz hb
  go_wp2_with fail
  have Y3 := hid (two_new w3 1 1 3)
  have V3 := hid (Z3.out.allocK' (.cells #[.int .i64 1, .int .i64 1] 3))
  have C3 := hid (Below.alloc B3.out B3.out.size (.cells #[.int .i64 1, .int .i64 1] 3))
  refine (left_any 5000 50 900 4 (some ⟨g3, 0, none⟩) (some ⟨w3.heap.size, 0, none⟩) 2 2 2 2 ZS [1, 1] _ V3.out Y3.out rfl rfl (by decide) (by decide)).mono ?_
  rintro e w4 ⟨rfl, hb⟩
  rw [H.out.2.1, H.out.2.2.2.2.2.2.1]
  have B4 := hid (C3.out.trans (hb.mono C3.out.size))
  have E24 := hid ((Below.alloc E23.out E23.out.size (.cells #[.int .i64 1, .int .i64 1] 3)).trans (hb.mono (Below.alloc E23.out E23.out.size (.cells #[.int .i64 1, .int .i64 1] 3)).size))
  clear hb
  go_wp2_with fail
  refine (deckle_any _).mono ?_
  rintro e w5 ⟨g5, rfl, hz, hb⟩
  have Z5 := hid hz
  have B5 := hid (B4.out.trans (hb.mono B4.out.size))
  have E25 := hid (E24.out.trans (hb.mono E24.out.size))
  clear hz hb
  go_wp2_with fail
  have Y5 := hid (two_new w5 0 3 3)
  have V5 := hid (Z5.out.allocK' (.cells #[.int .i64 0, .int .i64 3] 3))
  have C5 := hid (Below.alloc B5.out B5.out.size (.cells #[.int .i64 0, .int .i64 3] 3))
  refine (index_any 5000 50 900 4 (some ⟨g5, 0, none⟩) (some ⟨w5.heap.size, 0, none⟩) 2 2 2 2 ZS [0, 3] _ V5.out Y5.out rfl rfl (by decide) (by decide)).mono ?_
  rintro e w6 ⟨x, rfl, hx, _, hb⟩
  obtain rfl := aw_idx (hx H.out.2.2.1)
  rw [H.out.2.2.1]
  clear hx
  have B6 := hid (C5.out.trans (hb.mono C5.out.size))
  have E26 := hid ((Below.alloc E25.out E25.out.size (.cells #[.int .i64 0, .int .i64 3] 3)).trans (hb.mono (Below.alloc E25.out E25.out.size (.cells #[.int .i64 0, .int .i64 3] 3)).size))
  clear hb
  go_wp2_with fail
  refine (deckle_any _).mono ?_
  rintro e w7 ⟨g7, rfl, hz, hb⟩
  have Z7 := hid hz
  have B7 := hid (B6.out.trans (hb.mono B6.out.size))
  have E27 := hid (E26.out.trans (hb.mono E26.out.size))
  clear hz hb
  go_wp2_with fail
  have Y7 := hid (two_new w7 2 0 3)
  have V7 := hid (Z7.out.allocK' (.cells #[.int .i64 2, .int .i64 0] 3))
  have C7 := hid (Below.alloc B7.out B7.out.size (.cells #[.int .i64 2, .int .i64 0] 3))
  refine (maximal_any 5000 50 900 4 (some ⟨g7, 0, none⟩) (some ⟨w7.heap.size, 0, none⟩) 2 2 2 2 ZS [2, 0] _ V7.out Y7.out rfl rfl (by decide) (by decide)).mono ?_
  rintro e w8 ⟨rfl, hb⟩
  rw [H.out.2.2.2.1, H.out.2.2.2.2.2.2.2]
  have B8 := hid (C7.out.trans (hb.mono C7.out.size))
  have E28 := hid ((Below.alloc E27.out E27.out.size (.cells #[.int .i64 2, .int .i64 0] 3)).trans (hb.mono (Below.alloc E27.out E27.out.size (.cells #[.int .i64 2, .int .i64 0] 3)).size))
  clear hb
  go_wp2_with fail
  have L4 : Hid (Rds Nn ((((w8.alloc (.cells #[.int .i64 2, .int .i64 0] 3)).alloc (.cells #[.int .i64 1, .int .i64 1] 3)).alloc (.cells #[.int .i64 0, .int .i64 3] 3)).alloc (.cells #[.slice (some ⟨w8.heap.size, 0, none⟩) 2 2, .slice (some ⟨w8.heap.size + 1, 0, none⟩) 2 2, .slice (some ⟨w8.heap.size + 1 + 1, 0, none⟩) 2 2] 22)) 1 (some ⟨w8.heap.size + 1 + 1 + 1, 0, none⟩) 3 [Value.slice (some ⟨w8.heap.size, 0, none⟩) 2 2, Value.slice (some ⟨w8.heap.size + 1, 0, none⟩) 2 2, Value.slice (some ⟨w8.heap.size + 1 + 1, 0, none⟩) 2 2]) := hid (by
    refine ⟨rfl, fun _ => ⟨_, rfl, by simp, id, fun j u hu => ?_⟩⟩
    rw [add_at, Nat.zero_add, (Blk.at_new (((w8.alloc (.cells #[.int .i64 2, .int .i64 0] 3)).alloc (.cells #[.int .i64 1, .int .i64 1] 3)).alloc (.cells #[.int .i64 0, .int .i64 3] 3)) (b := w8.heap.size + 1 + 1 + 1) (by simp)).cell]
    simpa using hu)
  have P4 : Hid (PRow Nn ((((w8.alloc (.cells #[.int .i64 2, .int .i64 0] 3)).alloc (.cells #[.int .i64 1, .int .i64 1] 3)).alloc (.cells #[.int .i64 0, .int .i64 3] 3)).alloc (.cells #[.slice (some ⟨w8.heap.size, 0, none⟩) 2 2, .slice (some ⟨w8.heap.size + 1, 0, none⟩) 2 2, .slice (some ⟨w8.heap.size + 1 + 1, 0, none⟩) 2 2] 22)) [Value.slice (some ⟨w8.heap.size, 0, none⟩) 2 2, Value.slice (some ⟨w8.heap.size + 1, 0, none⟩) 2 2, Value.slice (some ⟨w8.heap.size + 1 + 1, 0, none⟩) 2 2] [[2, 0], [1, 1], [0, 3]]) := hid (by
    refine ⟨rfl, fun i l hl => ?_⟩
    match i, hl with
    | 0, hl => simp at hl; subst hl; exact ⟨_, 2, rfl, (arr_rds (l := [2, 0]) (t := 3) (b := w8.heap.size) (Blk.alloc (Blk.alloc (Blk.alloc (Blk.at_new w8 (b := w8.heap.size) (by first | rfl | simp)) _) _) _) rfl)⟩
    | 1, hl => simp at hl; subst hl; exact ⟨_, 2, rfl, (arr_rds (l := [1, 1]) (t := 3) (b := w8.heap.size + 1) (Blk.alloc (Blk.alloc (Blk.at_new (w8.alloc (.cells #[.int .i64 2, .int .i64 0] 3)) (b := w8.heap.size + 1) (by first | rfl | simp)) _) _) rfl)⟩
    | 2, hl => simp at hl; subst hl; exact ⟨_, 2, rfl, (arr_rds (l := [0, 3]) (t := 3) (b := w8.heap.size + 1 + 1) (Blk.alloc (Blk.at_new ((w8.alloc (.cells #[.int .i64 2, .int .i64 0] 3)).alloc (.cells #[.int .i64 1, .int .i64 1] 3)) (b := w8.heap.size + 1 + 1) (by first | rfl | simp)) _) rfl)⟩
    | i + 3, hl => simp at hl)
  have D9 := hid (show Below w8.heap.size w8 ((((w8.alloc (.cells #[.int .i64 2, .int .i64 0] 3)).alloc (.cells #[.int .i64 1, .int .i64 1] 3)).alloc (.cells #[.int .i64 0, .int .i64 3] 3)).alloc (.cells #[.slice (some ⟨w8.heap.size, 0, none⟩) 2 2, .slice (some ⟨w8.heap.size + 1, 0, none⟩) 2 2, .slice (some ⟨w8.heap.size + 1 + 1, 0, none⟩) 2 2] 22)) from Below.alloc (Below.alloc (Below.alloc (Below.alloc (Below.refl _ _) (Nat.le_refl _) _) (by simp) _) (by simp <;> omega) _) (by simp <;> omega) _)
  have D28 := hid (show Below w2.heap.size w2 w8 from E28.out)
  refine (same38_any A _ cap 3 3 3 vs [Value.slice (some ⟨w8.heap.size, 0, none⟩) 2 2, Value.slice (some ⟨w8.heap.size + 1, 0, none⟩) 2 2, Value.slice (some ⟨w8.heap.size + 1 + 1, 0, none⟩) 2 2] [[2, 0], [1, 1], [0, 3]] [[2, 0], [1, 1], [0, 3]] _ ((RU.out.below D28.out).below D9.out) L4.out ((PU.out.below D28.out).below D9.out) P4.out rfl rfl (by decide) (by intro l hl; simp at hl; rcases hl with rfl | rfl | rfl <;> decide)).mono ?_
  rintro e w9 ⟨rfl, hb⟩
  have B9 := hid (B8.out.trans ((D9.out.trans (hb.mono D9.out.size)).mono B8.out.size))
  clear hb L4 P4 D9 D28
  go_wp2_with fail
  refine (deckle_any _).mono ?_
  rintro e w10 ⟨g10, rfl, hz, hb⟩
  have Z10 := hid hz
  have B10 := hid (B9.out.trans (hb.mono B9.out.size))
  clear hz hb
  go_wp2_with fail
  have Y10 := hid (two_new w10 1 0 3)
  have V10 := hid (Z10.out.allocK' (.cells #[.int .i64 1, .int .i64 0] 3))
  have C10 := hid (Below.alloc B10.out B10.out.size (.cells #[.int .i64 1, .int .i64 0] 3))
  refine (pfits_any 5000 50 900 4 (some ⟨g10, 0, none⟩) (some ⟨w10.heap.size, 0, none⟩) 2 2 2 2 ZS [1, 0] _ V10.out Y10.out rfl rfl (by decide) (by decide)).mono ?_
  rintro e w11 ⟨rfl, hb⟩
  rw [H.out.2.2.2.2.1]
  have B11 := hid (C10.out.trans (hb.mono C10.out.size))
  clear hb
  go_wp2_with fail
  refine (deckle_any _).mono ?_
  rintro e w12 ⟨g12, rfl, hz, hb⟩
  have Z12 := hid hz
  have B12 := hid (B11.out.trans (hb.mono B11.out.size))
  clear hz hb
  go_wp2_with fail
  have Y12 := hid (two_new w12 2 1 3)
  have V12 := hid (Z12.out.allocK' (.cells #[.int .i64 2, .int .i64 1] 3))
  have C12 := hid (Below.alloc B12.out B12.out.size (.cells #[.int .i64 2, .int .i64 1] 3))
  refine (pfits_any 5000 50 900 4 (some ⟨g12, 0, none⟩) (some ⟨w12.heap.size, 0, none⟩) 2 2 2 2 ZS [2, 1] _ V12.out Y12.out rfl rfl (by decide) (by decide)).mono ?_
  rintro e w13 ⟨rfl, hb⟩
  rw [H.out.2.2.2.2.2.1]
  have B13 := hid (C12.out.trans (hb.mono C12.out.size))
  clear hb
  go_wp2
  go_ret
  exact ⟨rfl, B13.out⟩
end Go.Proofs.Ytclmjllngcndbaa
