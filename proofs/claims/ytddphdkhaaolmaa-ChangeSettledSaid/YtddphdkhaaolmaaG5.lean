/- Chapter 32: Path of the program. -/
import Derived.Test.YtddphdkhaaolmaaG4
namespace Go.Proofs.Ytddphdkhaaolmaa
open Go.RowKit

theorem rep_ints {w : World} {A : Option Addr} {N : Nat} {x y : Int} (h : Rds Nn w 2 A N (List.replicate N [Value.int .i64 x, .int .i64 y]).flatten) : Rds Nn w 2 A N (ints (List.replicate N [x, y]).flatten) := by
  have e : ints (List.replicate N [x, y]).flatten = (List.replicate N [Value.int .i64 x, .int .i64 y]).flatten := by simp [ints, List.map_flatten]
  rw [e]
  exact h
set_option linter.unusedSimpArgs false in
set_option maxRecDepth 100000 in
set_option maxHeartbeats 16000000 in
theorem path_any (b m : CP) (cp : Int) (f t : GR) (n : Int) (w : World) : Calls Try.prog 12 #[.agg #[.int .i64 b.kp, .int .i64 b.ki, .int .i64 b.sh, .int .i64 b.lo, .int .i64 b.hi, .int .i64 b.rate, .int .i64 b.ga, .int .i64 b.la, .int .i64 b.de, .int .i64 m.kp, .int .i64 m.ki, .int .i64 m.sh, .int .i64 m.lo, .int .i64 m.hi, .int .i64 m.rate, .int .i64 m.ga, .int .i64 m.la, .int .i64 m.de, .int .i64 cp], .agg #[.string f.nm, .int .i64 f.bs, .int .i64 f.bt, .int .i64 f.mo, .int .i64 f.mt, .int .i64 f.ca, .slice f.ra f.rn f.rc, .int .i64 f.pr], .agg #[.string t.nm, .int .i64 t.bs, .int .i64 t.bt, .int .i64 t.mo, .int .i64 t.mt, .int .i64 t.ca, .slice t.ra t.rn t.rc, .int .i64 t.pr], .int .i64 n] w (PathPost b m cp f t n w) := by
  have W0 := hid (Blk.alloc (Blk.alloc (Blk.at_new w (b := w.heap.size) (t := 29) (cs := #[.int .i64 b.kp, .int .i64 b.ki, .int .i64 b.sh, .int .i64 b.lo, .int .i64 b.hi, .int .i64 b.rate, .int .i64 b.ga, .int .i64 b.la, .int .i64 b.de, .int .i64 m.kp, .int .i64 m.ki, .int .i64 m.sh, .int .i64 m.lo, .int .i64 m.hi, .int .i64 m.rate, .int .i64 m.ga, .int .i64 m.la, .int .i64 m.de, .int .i64 cp]) rfl) (.cells #[.string f.nm, .int .i64 f.bs, .int .i64 f.bt, .int .i64 f.mo, .int .i64 f.mt, .int .i64 f.ca, .slice f.ra f.rn f.rc, .int .i64 f.pr] 32)) (.cells #[.string t.nm, .int .i64 t.bs, .int .i64 t.bt, .int .i64 t.mo, .int .i64 t.mt, .int .i64 t.ca, .slice t.ra t.rn t.rc, .int .i64 t.pr] 32))
  have F0 := hid (Blk.alloc (Blk.at_new (w.alloc (.cells #[.int .i64 b.kp, .int .i64 b.ki, .int .i64 b.sh, .int .i64 b.lo, .int .i64 b.hi, .int .i64 b.rate, .int .i64 b.ga, .int .i64 b.la, .int .i64 b.de, .int .i64 m.kp, .int .i64 m.ki, .int .i64 m.sh, .int .i64 m.lo, .int .i64 m.hi, .int .i64 m.rate, .int .i64 m.ga, .int .i64 m.la, .int .i64 m.de, .int .i64 cp] 29)) (b := w.heap.size + 1) (t := 32) (cs := #[.string f.nm, .int .i64 f.bs, .int .i64 f.bt, .int .i64 f.mo, .int .i64 f.mt, .int .i64 f.ca, .slice f.ra f.rn f.rc, .int .i64 f.pr]) (by simp)) (.cells #[.string t.nm, .int .i64 t.bs, .int .i64 t.bt, .int .i64 t.mo, .int .i64 t.mt, .int .i64 t.ca, .slice t.ra t.rn t.rc, .int .i64 t.pr] 32))
  have T0 := hid (Blk.at_new ((w.alloc (.cells #[.int .i64 b.kp, .int .i64 b.ki, .int .i64 b.sh, .int .i64 b.lo, .int .i64 b.hi, .int .i64 b.rate, .int .i64 b.ga, .int .i64 b.la, .int .i64 b.de, .int .i64 m.kp, .int .i64 m.ki, .int .i64 m.sh, .int .i64 m.lo, .int .i64 m.hi, .int .i64 m.rate, .int .i64 m.ga, .int .i64 m.la, .int .i64 m.de, .int .i64 cp] 29)).alloc (.cells #[.string f.nm, .int .i64 f.bs, .int .i64 f.bt, .int .i64 f.mo, .int .i64 f.mt, .int .i64 f.ca, .slice f.ra f.rn f.rc, .int .i64 f.pr] 32)) (b := w.heap.size + 1 + 1) (t := 32) (cs := #[.string t.nm, .int .i64 t.bs, .int .i64 t.bt, .int .i64 t.mo, .int .i64 t.mt, .int .i64 t.ca, .slice t.ra t.rn t.rc, .int .i64 t.pr]) (by simp))
  have B0 := hid ((((Below.refl w.heap.size w).alloc (Nat.le_refl _) (.cells #[.int .i64 b.kp, .int .i64 b.ki, .int .i64 b.sh, .int .i64 b.lo, .int .i64 b.hi, .int .i64 b.rate, .int .i64 b.ga, .int .i64 b.la, .int .i64 b.de, .int .i64 m.kp, .int .i64 m.ki, .int .i64 m.sh, .int .i64 m.lo, .int .i64 m.hi, .int .i64 m.rate, .int .i64 m.ga, .int .i64 m.la, .int .i64 m.de, .int .i64 cp] 29)).alloc (by simp) (.cells #[.string f.nm, .int .i64 f.bs, .int .i64 f.bt, .int .i64 f.mo, .int .i64 f.mt, .int .i64 f.ca, .slice f.ra f.rn f.rc, .int .i64 f.pr] 32)).alloc (by simp <;> omega) (.cells #[.string t.nm, .int .i64 t.bs, .int .i64 t.bt, .int .i64 t.mo, .int .i64 t.mt, .int .i64 t.ca, .slice t.ra t.rn t.rc, .int .i64 t.pr] 32))
  go_enter Try.func12, Try.ntmps12
  go_wp2_with (refine wpList_load_blk2 (t := 29) rfl rfl rfl Try.underlying29 rfl (by kernel_rfl) W0.out ?_)
  refine (wcheck_any b m cp _).mono ?_
  rintro e w1 ⟨rfl, hb⟩
  have B1 := hid (B0.out.trans (hb.mono B0.out.size))
  have W1 := hid (W0.out.below hb W0.out.lt)
  have F1 := hid (F0.out.below hb F0.out.lt)
  have T1 := hid (T0.out.below hb T0.out.lt)
  clear hb
  by_cases hc : chkW b m cp = 0
  rotate_left
  · have hz2 : (chkW b m cp != 0) = true := by simpa using hc
    have HC := hid hc
    clear hc
    go_wp2
    go_ret2
    exact path_c HC.out B1.out
  rw [hc]
  have HC := hid hc
  clear hc
  have GB := hid (Blk.at_new w1 (b := w1.heap.size) (t := 32) (cs := #[.string f.nm, .int .i64 f.bs, .int .i64 f.bt, .int .i64 f.mo, .int .i64 f.mt, .int .i64 f.ca, .slice f.ra f.rn f.rc, .int .i64 f.pr, .string t.nm, .int .i64 t.bs, .int .i64 t.bt, .int .i64 t.mo, .int .i64 t.mt, .int .i64 t.ca, .slice t.ra t.rn t.rc, .int .i64 t.pr]) rfl)
  have B2 := hid (B1.out.alloc B1.out.size (.cells #[.string f.nm, .int .i64 f.bs, .int .i64 f.bt, .int .i64 f.mo, .int .i64 f.mt, .int .i64 f.ca, .slice f.ra f.rn f.rc, .int .i64 f.pr, .string t.nm, .int .i64 t.bs, .int .i64 t.bt, .int .i64 t.mo, .int .i64 t.mt, .int .i64 t.ca, .slice t.ra t.rn t.rc, .int .i64 t.pr] 32))
  have W2 := hid (Blk.alloc W1.out (.cells #[.string f.nm, .int .i64 f.bs, .int .i64 f.bt, .int .i64 f.mo, .int .i64 f.mt, .int .i64 f.ca, .slice f.ra f.rn f.rc, .int .i64 f.pr, .string t.nm, .int .i64 t.bs, .int .i64 t.bt, .int .i64 t.mo, .int .i64 t.mt, .int .i64 t.ca, .slice t.ra t.rn t.rc, .int .i64 t.pr] 32))
  have F2 := hid (Blk.alloc F1.out (.cells #[.string f.nm, .int .i64 f.bs, .int .i64 f.bt, .int .i64 f.mo, .int .i64 f.mt, .int .i64 f.ca, .slice f.ra f.rn f.rc, .int .i64 f.pr, .string t.nm, .int .i64 t.bs, .int .i64 t.bt, .int .i64 t.mo, .int .i64 t.mt, .int .i64 t.ca, .slice t.ra t.rn t.rc, .int .i64 t.pr] 32))
  have T2 := hid (Blk.alloc T1.out (.cells #[.string f.nm, .int .i64 f.bs, .int .i64 f.bt, .int .i64 f.mo, .int .i64 f.mt, .int .i64 f.ca, .slice f.ra f.rn f.rc, .int .i64 f.pr, .string t.nm, .int .i64 t.bs, .int .i64 t.bt, .int .i64 t.mo, .int .i64 t.mt, .int .i64 t.ca, .slice t.ra t.rn t.rc, .int .i64 t.pr] 32))
  clear W0 F0 T0
  go_wp2_with (first | (refine wpList_load_blk2 (t := 32) rfl rfl rfl Try.underlying32 rfl (by kernel_rfl) F1.out ?_) | (refine wpList_load_blk2 (t := 32) rfl rfl rfl Try.underlying32 rfl (by kernel_rfl) T1.out ?_))
  generalize w1.alloc (.cells #[.string f.nm, .int .i64 f.bs, .int .i64 f.bt, .int .i64 f.mo, .int .i64 f.mt, .int .i64 f.ca, .slice f.ra f.rn f.rc, .int .i64 f.pr, .string t.nm, .int .i64 t.bs, .int .i64 t.bt, .int .i64 t.mo, .int .i64 t.mt, .int .i64 t.ca, .slice t.ra t.rn t.rc, .int .i64 t.pr] 32) = w2 at *
  go_loopw [24] (fun i wr => ∃ k : Nat, k ≤ 2 ∧ i = .int .i64 k ∧ (1 ≤ k → fitB f = true) ∧ (2 ≤ k → fitB t = true) ∧ Below w2.heap.size w2 wr) (fun i _ => 2 - (intOf i).toNat)
  case atStart => exact ⟨0, by omega, rfl, (fun h => by omega), (fun h => by omega), Below.refl _ _⟩
  case round =>
    obtain ⟨k, hk, rfl, hf, ht, hbel⟩ := hrel
    have BB := hid hbel
    clear hbel
    have hk3 : k = 0 ∨ k = 1 ∨ k = 2 := by omega
    rcases hk3 with rfl | rfl | rfl
    · clear hf ht
      have cw := (GB.out.below BB.out GB.out.lt).cell
      have DN := hid (Blk.at_new wr (b := wr.heap.size) (t := 32) (cs := #[.string f.nm, .int .i64 f.bs, .int .i64 f.bt, .int .i64 f.mo, .int .i64 f.mt, .int .i64 f.ca, .slice f.ra f.rn f.rc, .int .i64 f.pr]) rfl)
      have BN := hid (BB.out.alloc BB.out.size (.cells #[.string f.nm, .int .i64 f.bs, .int .i64 f.bt, .int .i64 f.mo, .int .i64 f.mt, .int .i64 f.ca, .slice f.ra f.rn f.rc, .int .i64 f.pr] 32))
      go_wp2_with fail
      refine (cin_any f.bs 1 1000000 _).mono ?_
      rintro e w5 ⟨rfl, hb⟩
      have D5 := hid (DN.out.below hb DN.out.lt)
      have B5 := hid (BN.out.trans (hb.mono BN.out.size))
      clear hb cw
      by_cases h1 : 1 ≤ f.bs ∧ f.bs ≤ 1000000
      rotate_left
      · rw [decide_eq_false h1]
        have HX : Hid (¬ (fitB f = true)) := hid (fun e => h1 (fit_yes e).1)
        clear h1
        go_wp2
        go_ret2
        exact path_1 HC.out (fun e => HX.out e.1) (B2.out.trans (B5.out.mono B2.out.size))
      rw [decide_eq_true h1]
      have H1 := hid h1
      clear h1
      have c5 := D5.out.cell
      go_wp2_with fail
      refine (cin_any f.mo 0 2000 _).mono ?_
      rintro e w6 ⟨rfl, hb⟩
      have B6 := hid (B5.out.trans (hb.mono B5.out.size))
      clear hb c5
      by_cases h2 : 0 ≤ f.mo ∧ f.mo ≤ 2000
      rotate_left
      · rw [decide_eq_false h2]
        have HX : Hid (¬ (fitB f = true)) := hid (fun e => h2 (fit_yes e).2)
        clear h2
        go_wp2
        go_ret2
        exact path_1 HC.out (fun e => HX.out e.1) (B2.out.trans (B6.out.mono B2.out.size))
      rw [decide_eq_true h2]
      have HX : Hid (fitB f = true) := hid (decide_eq_true ⟨H1.out.1, H1.out.2, h2.1, h2.2⟩)
      clear h2
      go_wp2
      go_roundw
      case rel => exact ⟨1, by omega, rfl, (fun _ => HX.out), (fun h => by omega), B6.out⟩
      case measure => simp [intOf]
    · clear ht
      have cw := (GB.out.below BB.out GB.out.lt).cell
      have DN := hid (Blk.at_new wr (b := wr.heap.size) (t := 32) (cs := #[.string t.nm, .int .i64 t.bs, .int .i64 t.bt, .int .i64 t.mo, .int .i64 t.mt, .int .i64 t.ca, .slice t.ra t.rn t.rc, .int .i64 t.pr]) rfl)
      have BN := hid (BB.out.alloc BB.out.size (.cells #[.string t.nm, .int .i64 t.bs, .int .i64 t.bt, .int .i64 t.mo, .int .i64 t.mt, .int .i64 t.ca, .slice t.ra t.rn t.rc, .int .i64 t.pr] 32))
      go_wp2_with fail
      refine (cin_any t.bs 1 1000000 _).mono ?_
      rintro e w5 ⟨rfl, hb⟩
      have D5 := hid (DN.out.below hb DN.out.lt)
      have B5 := hid (BN.out.trans (hb.mono BN.out.size))
      clear hb cw
      by_cases h1 : 1 ≤ t.bs ∧ t.bs ≤ 1000000
      rotate_left
      · rw [decide_eq_false h1]
        have HX : Hid (¬ (fitB t = true)) := hid (fun e => h1 (fit_yes e).1)
        clear h1
        go_wp2
        go_ret2
        exact path_1 HC.out (fun e => HX.out e.2.1) (B2.out.trans (B5.out.mono B2.out.size))
      rw [decide_eq_true h1]
      have H1 := hid h1
      clear h1
      have c5 := D5.out.cell
      go_wp2_with fail
      refine (cin_any t.mo 0 2000 _).mono ?_
      rintro e w6 ⟨rfl, hb⟩
      have B6 := hid (B5.out.trans (hb.mono B5.out.size))
      clear hb c5
      by_cases h2 : 0 ≤ t.mo ∧ t.mo ≤ 2000
      rotate_left
      · rw [decide_eq_false h2]
        have HX : Hid (¬ (fitB t = true)) := hid (fun e => h2 (fit_yes e).2)
        clear h2
        go_wp2
        go_ret2
        exact path_1 HC.out (fun e => HX.out e.2.1) (B2.out.trans (B6.out.mono B2.out.size))
      rw [decide_eq_true h2]
      have HX : Hid (fitB t = true) := hid (decide_eq_true ⟨H1.out.1, H1.out.2, h2.1, h2.2⟩)
      clear h2
      go_wp2
      go_roundw
      case rel => exact ⟨2, by omega, rfl, (fun _ => hf (by omega)), (fun _ => HX.out), B6.out⟩
      case measure => simp [intOf]
    have HF := hid (hf (by omega))
    have HT := hid (ht (by omega))
    clear hf ht
    have B3 := hid (B2.out.trans (BB.out.mono B2.out.size))
    have W3 := hid (W2.out.below BB.out W2.out.lt)
    have F3 := hid (F2.out.below BB.out F2.out.lt)
    have T3 := hid (T2.out.below BB.out T2.out.lt)
    go_wp2_with fail
    refine (cin_any n 0 512 _).mono ?_
    rintro e w7 ⟨rfl, hb⟩
    have B7 := hid (B3.out.trans (hb.mono B3.out.size))
    have W7 := hid (W3.out.below hb W3.out.lt)
    have F7 := hid (F3.out.below hb F3.out.lt)
    have T7 := hid (T3.out.below hb T3.out.lt)
    clear hb
    by_cases hn : 0 ≤ n ∧ n ≤ 512
    rotate_left
    · rw [decide_eq_false hn]
      have HN := hid hn
      clear hn
      go_wp2
      go_ret2
      exact path_1 HC.out (fun e => by have := HN.out; have := e.2.2; omega) B7.out
    rw [decide_eq_true hn]
    obtain ⟨N, rfl⟩ := Int.eq_ofNat_of_zero_le hn.1
    have OK : Hid (okPath f t (N : Int)) := hid ⟨HF.out, HT.out, hn⟩
    have hN5 : N ≤ 512 := by omega
    clear hn
    go_upto_region 12 with fail
    refine wp_region_hand (fun w' => Blk w' w.heap.size 29 #[.int .i64 b.kp, .int .i64 b.ki, .int .i64 b.sh, .int .i64 b.lo, .int .i64 b.hi, .int .i64 b.rate, .int .i64 b.ga, .int .i64 b.la, .int .i64 b.de, .int .i64 m.kp, .int .i64 m.ki, .int .i64 m.sh, .int .i64 m.lo, .int .i64 m.hi, .int .i64 m.rate, .int .i64 m.ga, .int .i64 m.la, .int .i64 m.de, .int .i64 cp] ∧ Blk w' (w.heap.size + 1) 32 #[.string f.nm, .int .i64 f.bs, .int .i64 f.bt, .int .i64 f.mo, .int .i64 f.mt, .int .i64 f.ca, .slice f.ra f.rn f.rc, .int .i64 f.pr] ∧ Blk w' (w.heap.size + 1 + 1) 32 #[.string t.nm, .int .i64 t.bs, .int .i64 t.bt, .int .i64 t.mo, .int .i64 t.mt, .int .i64 t.ca, .slice t.ra t.rn t.rc, .int .i64 t.pr]) (by kernel_rfl) ?_
    simp only [List.length_cons, List.length_nil, Nat.zero_add, Nat.reduceAdd]
    have hS : Blk w7.drew w.heap.size 29 #[.int .i64 b.kp, .int .i64 b.ki, .int .i64 b.sh, .int .i64 b.lo, .int .i64 b.hi, .int .i64 b.rate, .int .i64 b.ga, .int .i64 b.la, .int .i64 b.de, .int .i64 m.kp, .int .i64 m.ki, .int .i64 m.sh, .int .i64 m.lo, .int .i64 m.hi, .int .i64 m.rate, .int .i64 m.ga, .int .i64 m.la, .int .i64 m.de, .int .i64 cp] ∧ Blk w7.drew (w.heap.size + 1) 32 #[.string f.nm, .int .i64 f.bs, .int .i64 f.bt, .int .i64 f.mo, .int .i64 f.mt, .int .i64 f.ca, .slice f.ra f.rn f.rc, .int .i64 f.pr] ∧ Blk w7.drew (w.heap.size + 1 + 1) 32 #[.string t.nm, .int .i64 t.bs, .int .i64 t.bt, .int .i64 t.mo, .int .i64 t.mt, .int .i64 t.ca, .slice t.ra t.rn t.rc, .int .i64 t.pr] := ⟨W7.out, F7.out, T7.out⟩
    refine take_at (i := 0) (v := .agg #[.int .i64 b.kp, .int .i64 b.ki, .int .i64 b.sh, .int .i64 b.lo, .int .i64 b.hi, .int .i64 b.rate, .int .i64 b.ga, .int .i64 b.la, .int .i64 b.de, .int .i64 m.kp, .int .i64 m.ki, .int .i64 m.sh, .int .i64 m.lo, .int .i64 m.hi, .int .i64 m.rate, .int .i64 m.ga, .int .i64 m.la, .int .i64 m.de, .int .i64 cp]) rfl rfl (by kernel_rfl) (by kernel_rfl) (by kernel_rfl) (fun _ _ _ h => h) (Or.inl ⟨by rfl, fun wi hSw => exec_loads (p := .pointer (some ⟨w.heap.size, 0, none⟩)) rfl rfl (load_blk hSw.1 Try.underlying29 rfl (by kernel_rfl))⟩) hS ?_
    try simp only [List.setIfInBounds_toArray, List.set_cons_zero, List.set_cons_succ]
    refine take_at (i := 1) (v := .agg #[.string f.nm, .int .i64 f.bs, .int .i64 f.bt, .int .i64 f.mo, .int .i64 f.mt, .int .i64 f.ca, .slice f.ra f.rn f.rc, .int .i64 f.pr]) rfl rfl (by kernel_rfl) (by kernel_rfl) (by kernel_rfl) (fun _ _ _ h => h) (Or.inl ⟨by rfl, fun wi hSw => exec_loads (p := .pointer (some ⟨w.heap.size + 1, 0, none⟩)) rfl rfl (load_blk hSw.2.1 Try.underlying32 rfl (by kernel_rfl))⟩) hS ?_
    try simp only [List.setIfInBounds_toArray, List.set_cons_zero, List.set_cons_succ]
    have K0 := hid (Below.drew (Below.refl w7.heap.size w7))
    refine wpAnyH_ready (rs := [2, 7]) (by kernel_rfl) (by simp) ?_
    refine (AllReadyH.cons rfl (fun KK hK => ?_) (AllReadyH.cons rfl (fun KK hK => ?_) AllReadyH.nil))
    · go_simp
      (go_at_call 30; refine (ctarget_any f _).mono ?_; rintro e t1 ⟨rfl, hb⟩)
      have HB := hid (show Below w7.drew.heap.size w7.drew t1 from by first | exact hb | exact (Below.drew (Below.refl _ _)).trans hb)
      have K1 := hid (K0.out.trans (HB.out.mono K0.out.size))
      have S1 := hid (hS.1.below HB.out hS.1.lt)
      have V1 := hid (hS.2.1.below HB.out hS.2.1.lt)
      have U1 := hid (hS.2.2.below HB.out hS.2.2.lt)
      clear hb HB hS
      refine hK.out _ _ ⟨S1.out, V1.out, U1.out⟩ (fun hS => ?_)
      clear hK KK
      try simp only [Act.put, List.setIfInBounds_toArray, List.set_cons_zero, List.set_cons_succ]
      refine wpAnyH_ready (rs := [3, 7]) (by kernel_rfl) (by simp) ?_
      refine (AllReadyH.cons rfl (fun KK hK => ?_) (AllReadyH.cons rfl (fun KK hK => ?_) AllReadyH.nil))
      · go_simp
        (go_at_call 25; refine (wrests_any b m cp f.bs f.mo _).mono ?_; rintro e t2 ⟨oB, oM, vB, vM, er, rfl, hrs, hb⟩)
        obtain rfl := rest_er hrs HC.out (by have := fit_yes HF.out; omega) (by have := fit_yes HF.out; omega)
        have RS := hid hrs
        clear hrs
        have HB := hid (show Below t1.heap.size t1 t2 from by first | exact hb | exact (Below.drew (Below.refl _ _)).trans hb)
        have K2 := hid (K1.out.trans (HB.out.mono K1.out.size))
        have S2 := hid (hS.1.below HB.out hS.1.lt)
        have V2 := hid (hS.2.1.below HB.out hS.2.1.lt)
        have U2 := hid (hS.2.2.below HB.out hS.2.2.lt)
        clear hb HB hS
        refine hK.out _ _ ⟨S2.out, V2.out, U2.out⟩ (fun hS => ?_)
        clear hK KK
        try simp only [Act.put, List.setIfInBounds_toArray, List.set_cons_zero, List.set_cons_succ]
        refine take_at (i := 4) (v := ?_) rfl rfl (by kernel_rfl) (by kernel_rfl) (by kernel_rfl) (fun _ _ _ h => h) (Or.inl ⟨by rfl, ?_⟩) hS ?_
        rotate_left
        · intro w hSw; (try dsimp only at hSw); go_simp; try with_reducible rfl
        try simp only [List.setIfInBounds_toArray, List.set_cons_zero, List.set_cons_succ]
        refine take_at (i := 5) (v := ?_) rfl rfl (by kernel_rfl) (by kernel_rfl) (by kernel_rfl) (fun _ _ _ h => h) (Or.inl ⟨by rfl, ?_⟩) hS ?_
        rotate_left
        · intro w hSw; (try dsimp only at hSw); go_simp; try with_reducible rfl
        try simp only [List.setIfInBounds_toArray, List.set_cons_zero, List.set_cons_succ]
        refine take_at (i := 6) (v := ?_) rfl rfl (by kernel_rfl) (by kernel_rfl) (by kernel_rfl) (fun _ _ _ h => h) (Or.inl ⟨by rfl, ?_⟩) hS ?_
        rotate_left
        · intro w hSw; (try dsimp only at hSw); go_simp; try with_reducible rfl
        try simp only [List.setIfInBounds_toArray, List.set_cons_zero, List.set_cons_succ]
        refine wpAnyH_ready (rs := [7]) (by kernel_rfl) (by simp) ?_
        refine (AllReadyH.cons rfl (fun KK hK => ?_) AllReadyH.nil)
        go_simp
        have K3 := hid (K2.out.alloc K2.out.size (.cells #[.int .i64 0, .int .i64 0, .int .i64 0, .int .i64 0] 63))
        have S3 := hid (Blk.alloc hS.1 (.cells #[.int .i64 0, .int .i64 0, .int .i64 0, .int .i64 0] 63))
        have V3 := hid (Blk.alloc hS.2.1 (.cells #[.int .i64 0, .int .i64 0, .int .i64 0, .int .i64 0] 63))
        have U3 := hid (Blk.alloc hS.2.2 (.cells #[.int .i64 0, .int .i64 0, .int .i64 0, .int .i64 0] 63))
        have Z3 := hid (Blk.at_new t2 (b := t2.heap.size) (t := 63) (cs := #[.int .i64 0, .int .i64 0, .int .i64 0, .int .i64 0]) rfl)
        have G3 : Hid (w7.heap.size ≤ t2.heap.size) := hid K2.out.size
        refine hK.out _ _ ⟨S3.out, V3.out, U3.out⟩ (fun hS => ?_)
        clear hK KK
        try simp only [Act.put, List.setIfInBounds_toArray, List.set_cons_zero, List.set_cons_succ]
        generalize hzb : t2.heap.size = zb at Z3 G3 ⊢
        generalize (t2.alloc (.cells #[.int .i64 0, .int .i64 0, .int .i64 0, .int .i64 0] 63)) = t3 at K3 S3 V3 U3 Z3 hS ⊢
        clear hzb
        have GZ := hid G3.out
        have NW : w.heap.size ≠ zb ∧ w.heap.size + 1 ≠ zb ∧ w.heap.size + 1 + 1 ≠ zb := by have h1 := GZ.out; have h2 := T7.out.lt; omega
        refine wpAnyH_ready (rs := [8]) (by kernel_rfl) (by simp) ?_
        refine AllReadyH.cons rfl (fun KK hK => ?_) AllReadyH.nil
        refine step_store_blk (t := 63) (e := 63) (cs0 := #[.int .i64 0, .int .i64 0, .int .i64 0, .int .i64 0]) (cs := #[.int .i64 oB, .int .i64 oM, .int .i64 vB, .int .i64 vM]) Z3.out (by kernel_rfl) rfl (by simp [Value.oneCell']) rfl rfl rfl rfl ?_
        refine hK.out _ _ ⟨Blk.rowOther hS.1 NW.1 _, Blk.rowOther hS.2.1 NW.2.1 _, Blk.rowOther hS.2.2 NW.2.2 _⟩ (fun hS => ?_)
        clear hK KK
        try simp only [Act.put, List.setIfInBounds_toArray, List.set_cons_zero, List.set_cons_succ]
        refine take_at (i := 9) (v := ?_) rfl rfl (by kernel_rfl) (by kernel_rfl) (by kernel_rfl) (fun _ _ _ h => h) (Or.inl ⟨by rfl, ?_⟩) hS ?_
        rotate_left
        · intro w hSw; (try dsimp only at hSw); go_simp; try with_reducible rfl
        try simp only [List.setIfInBounds_toArray, List.set_cons_zero, List.set_cons_succ]
        refine wpAnyH_done (by kernel_rfl) ?_ _
        simp only [Sure, Exit.then]
        have W9 := hid hS.1
        have T9 := hid hS.2.2
        have S9 := hid (Blk.row Z3.out #[.int .i64 oB, .int .i64 oM, .int .i64 vB, .int .i64 vM])
        have B9 := hid (B7.out.trans ((Below.row K3.out GZ.out #[.int .i64 oB, .int .i64 oM, .int .i64 vB, .int .i64 vM]).mono B7.out.size))
        generalize t3.setRow zb #[.int .i64 oB, .int .i64 oM, .int .i64 vB, .int .i64 vM] = w9 at W9 T9 S9 B9 hS ⊢
        clear hS
        go_upto_region 15 with fail
        refine wp_region_hand (fun w' => Blk w' w.heap.size 29 #[.int .i64 b.kp, .int .i64 b.ki, .int .i64 b.sh, .int .i64 b.lo, .int .i64 b.hi, .int .i64 b.rate, .int .i64 b.ga, .int .i64 b.la, .int .i64 b.de, .int .i64 m.kp, .int .i64 m.ki, .int .i64 m.sh, .int .i64 m.lo, .int .i64 m.hi, .int .i64 m.rate, .int .i64 m.ga, .int .i64 m.la, .int .i64 m.de, .int .i64 cp] ∧ Blk w' zb 63 #[.int .i64 oB, .int .i64 oM, .int .i64 vB, .int .i64 vM] ∧ Blk w' (w.heap.size + 1 + 1) 32 #[.string t.nm, .int .i64 t.bs, .int .i64 t.bt, .int .i64 t.mo, .int .i64 t.mt, .int .i64 t.ca, .slice t.ra t.rn t.rc, .int .i64 t.pr]) (by kernel_rfl) ?_
        simp only [List.length_cons, List.length_nil, Nat.zero_add, Nat.reduceAdd]
        have hS : Blk w9.drew w.heap.size 29 #[.int .i64 b.kp, .int .i64 b.ki, .int .i64 b.sh, .int .i64 b.lo, .int .i64 b.hi, .int .i64 b.rate, .int .i64 b.ga, .int .i64 b.la, .int .i64 b.de, .int .i64 m.kp, .int .i64 m.ki, .int .i64 m.sh, .int .i64 m.lo, .int .i64 m.hi, .int .i64 m.rate, .int .i64 m.ga, .int .i64 m.la, .int .i64 m.de, .int .i64 cp] ∧ Blk w9.drew zb 63 #[.int .i64 oB, .int .i64 oM, .int .i64 vB, .int .i64 vM] ∧ Blk w9.drew (w.heap.size + 1 + 1) 32 #[.string t.nm, .int .i64 t.bs, .int .i64 t.bt, .int .i64 t.mo, .int .i64 t.mt, .int .i64 t.ca, .slice t.ra t.rn t.rc, .int .i64 t.pr] := ⟨W9.out, S9.out, T9.out⟩
        refine take_at (i := 0) (v := .agg #[.int .i64 b.kp, .int .i64 b.ki, .int .i64 b.sh, .int .i64 b.lo, .int .i64 b.hi, .int .i64 b.rate, .int .i64 b.ga, .int .i64 b.la, .int .i64 b.de, .int .i64 m.kp, .int .i64 m.ki, .int .i64 m.sh, .int .i64 m.lo, .int .i64 m.hi, .int .i64 m.rate, .int .i64 m.ga, .int .i64 m.la, .int .i64 m.de, .int .i64 cp]) rfl rfl (by kernel_rfl) (by kernel_rfl) (by kernel_rfl) (fun _ _ _ h => h) (Or.inl ⟨by rfl, fun wi hSw => exec_loads (p := .pointer (some ⟨w.heap.size, 0, none⟩)) rfl rfl (load_blk hSw.1 Try.underlying29 rfl (by kernel_rfl))⟩) hS ?_
        try simp only [List.setIfInBounds_toArray, List.set_cons_zero, List.set_cons_succ]
        refine take_at (i := 1) (v := .agg #[.int .i64 oB, .int .i64 oM, .int .i64 vB, .int .i64 vM]) rfl rfl (by kernel_rfl) (by kernel_rfl) (by kernel_rfl) (fun _ _ _ h => h) (Or.inl ⟨by rfl, fun wi hSw => exec_loads (p := .pointer (some ⟨zb, 0, none⟩)) rfl rfl (load_blk hSw.2.1 Try.underlying63 rfl (by kernel_rfl))⟩) hS ?_
        try simp only [List.setIfInBounds_toArray, List.set_cons_zero, List.set_cons_succ]
        refine take_at (i := 2) (v := .agg #[.string t.nm, .int .i64 t.bs, .int .i64 t.bt, .int .i64 t.mo, .int .i64 t.mt, .int .i64 t.ca, .slice t.ra t.rn t.rc, .int .i64 t.pr]) rfl rfl (by kernel_rfl) (by kernel_rfl) (by kernel_rfl) (fun _ _ _ h => h) (Or.inl ⟨by rfl, fun wi hSw => exec_loads (p := .pointer (some ⟨w.heap.size + 1 + 1, 0, none⟩)) rfl rfl (load_blk hSw.2.2 Try.underlying32 rfl (by kernel_rfl))⟩) hS ?_
        try simp only [List.setIfInBounds_toArray, List.set_cons_zero, List.set_cons_succ]
        refine take_at (i := 5) (v := ?_) rfl rfl (by kernel_rfl) (by kernel_rfl) (by kernel_rfl) (fun _ _ _ h => h) (Or.inl ⟨by rfl, ?_⟩) hS ?_
        rotate_left
        · intro w hSw; (try dsimp only at hSw); go_simp; try with_reducible rfl
        try simp only [List.setIfInBounds_toArray, List.set_cons_zero, List.set_cons_succ]
        refine take_at (i := 7) (v := ?_) rfl rfl (by kernel_rfl) (by kernel_rfl) (by kernel_rfl) (fun _ _ _ h => h) (Or.inl ⟨by rfl, ?_⟩) hS ?_
        rotate_left
        · intro w hSw; (try dsimp only at hSw); go_simp; try with_reducible rfl
        try simp only [List.setIfInBounds_toArray, List.set_cons_zero, List.set_cons_succ]
        have K0 := hid (Below.drew (Below.refl w9.heap.size w9))
        refine wpAnyH_ready (rs := [3, 8]) (by kernel_rfl) (by simp) ?_
        refine (AllReadyH.cons rfl (fun KK hK => ?_) (AllReadyH.cons rfl (fun KK hK => ?_) AllReadyH.nil))
        · go_simp
          (go_at_call 30; refine (ctarget_any t _).mono ?_; rintro e t1 ⟨rfl, hb⟩)
          have HB := hid (show Below w9.drew.heap.size w9.drew t1 from by first | exact hb | exact (Below.drew (Below.refl _ _)).trans hb)
          have K1 := hid (K0.out.trans (HB.out.mono K0.out.size))
          have S1 := hid (hS.1.below HB.out hS.1.lt)
          have V1 := hid (hS.2.1.below HB.out hS.2.1.lt)
          have U1 := hid (hS.2.2.below HB.out hS.2.2.lt)
          clear hb HB hS
          refine hK.out _ _ ⟨S1.out, V1.out, U1.out⟩ (fun hS => ?_)
          clear hK KK
          try simp only [Act.put, List.setIfInBounds_toArray, List.set_cons_zero, List.set_cons_succ]
          refine wpAnyH_ready (rs := [4, 8]) (by kernel_rfl) (by simp) ?_
          refine (AllReadyH.cons rfl (fun KK hK => ?_) (AllReadyH.cons rfl (fun KK hK => ?_) AllReadyH.nil))
          · go_simp
            have K2 := hid (K1.out.alloc K1.out.size (.cells #[.int .i64 t.bs, .int .i64 t.mo] 60))
            have S2 := hid (Blk.alloc hS.1 (.cells #[.int .i64 t.bs, .int .i64 t.mo] 60))
            have V2 := hid (Blk.alloc hS.2.1 (.cells #[.int .i64 t.bs, .int .i64 t.mo] 60))
            have U2 := hid (Blk.alloc hS.2.2 (.cells #[.int .i64 t.bs, .int .i64 t.mo] 60))
            have RR2 := hid (Rds.pairAt t1 t1.heap.size (.int .i64 t.bs) (.int .i64 t.mo) 60 rfl)
            refine hK.out _ _ ⟨S2.out, V2.out, U2.out⟩ (fun hS => ?_)
            clear hK KK
            try simp only [Act.put, List.setIfInBounds_toArray, List.set_cons_zero, List.set_cons_succ]
            generalize t1.heap.size = rb at RR2 ⊢
            generalize (t1.alloc (.cells #[.int .i64 t.bs, .int .i64 t.mo] 60)) = t2 at K2 S2 V2 U2 RR2 hS ⊢
            refine wpAnyH_ready (rs := [6, 8]) (by kernel_rfl) (by simp) ?_
            refine (AllReadyH.cons rfl (fun KK hK => ?_) (AllReadyH.cons rfl (fun KK hK => ?_) AllReadyH.nil))
            · go_simp
              (go_at_call 32; refine (repeat_any [.int .i64 t.bs, .int .i64 t.mo] _ _ N _ (RR2.out.below (by first | exact Below.refl _ _ | exact Below.drew (Below.refl _ _))) (by intro u hu; simp at hu; rcases hu with rfl | rfl <;> rfl) (by omega)).mono ?_; rintro e t3 ⟨u, rfl, hu, hb⟩)
              obtain ⟨Ar, cr, rfl, _, _⟩ := own_form hu
              have HB := hid (show Below t2.heap.size t2 t3 from by first | exact hb | exact (Below.drew (Below.refl _ _)).trans hb)
              have K3 := hid (K2.out.trans (HB.out.mono K2.out.size))
              have RO3 := hid (rep_ints (Rds.own hu (S := Nn) (fun _ _ => id)))
              have S3 := hid (hS.1.below HB.out hS.1.lt)
              have V3 := hid (hS.2.1.below HB.out hS.2.1.lt)
              have U3 := hid (hS.2.2.below HB.out hS.2.2.lt)
              clear hu hb HB hS
              refine hK.out _ _ ⟨S3.out, V3.out, U3.out⟩ (fun hS => ?_)
              clear hK KK
              try simp only [Act.put, List.setIfInBounds_toArray, List.set_cons_zero, List.set_cons_succ]
              refine wpAnyH_ready (rs := [8]) (by kernel_rfl) (by simp) ?_
              refine (AllReadyH.cons rfl (fun KK hK => ?_) AllReadyH.nil)
              refine step_make Try.underlying39 infoR (n := N) (by omega) (by omega) rfl rfl rfl rfl ?_
              have K4 := hid (K3.out.alloc K3.out.size (.cells (madeCells (Value.agg #[.int .i64 0, .int .i64 0]).cells (N * 2)) 60))
              have S4 := hid (Blk.alloc hS.1 (.cells (madeCells (Value.agg #[.int .i64 0, .int .i64 0]).cells (N * 2)) 60))
              have V4 := hid (Blk.alloc hS.2.1 (.cells (madeCells (Value.agg #[.int .i64 0, .int .i64 0]).cells (N * 2)) 60))
              have U4 := hid (Blk.alloc hS.2.2 (.cells (madeCells (Value.agg #[.int .i64 0, .int .i64 0]).cells (N * 2)) 60))
              have ZR4 := hid (show Rds Nn (t3.alloc (.cells (madeCells (Value.agg #[.int .i64 0, .int .i64 0]).cells (N * 2)) 60)) 2 (some ⟨t3.heap.size, 0, none⟩) N (ints (List.replicate N [0, 0]).flatten) from zero_pairs t3 N 60)
              have RO4 := hid (RO3.out.allocS (.cells (madeCells (Value.agg #[.int .i64 0, .int .i64 0]).cells (N * 2)) 60))
              refine hK.out _ _ ⟨S4.out, V4.out, U4.out⟩ (fun hS => ?_)
              clear hK KK
              try simp only [Act.put, List.setIfInBounds_toArray, List.set_cons_zero, List.set_cons_succ]
              generalize t3.heap.size = mb at ZR4 ⊢
              generalize (t3.alloc (.cells (madeCells (Value.agg #[.int .i64 0, .int .i64 0]).cells (N * 2)) 60)) = t4 at K4 S4 V4 U4 ZR4 RO4 hS ⊢
              refine wpAnyH_ready (rs := [9]) (by kernel_rfl) (by simp) ?_
              refine AllReadyH.cons rfl (fun KK hK => ?_) AllReadyH.nil
              go_simp
              (go_at_call 31; refine (wrun_any b m cp oB oM vB vM Ar (some ⟨mb, 0, none⟩) cr N N N (List.replicate N [t.bs, t.mo]) (List.replicate N [0, 0]) _ (RO4.out.below (by first | exact Below.refl _ _ | exact Below.drew (Below.refl _ _))) (ZR4.out.below (by first | exact Below.refl _ _ | exact Below.drew (Below.refl _ _))) (rep_two _ _ _) (rep_two _ _ _) (by simp) (by simp) (by omega) (by omega)).mono ?_; rintro e wz ⟨u, rfl, hu, hb⟩; have RU := hid hu; have HB := hid (show Below t4.heap.size t4 wz from by first | exact hb | exact (Below.drew (Below.refl _ _)).trans hb); have BZ := hid (B9.out.trans ((K4.out.trans (HB.out.mono K4.out.size)).mono B9.out.size)); have S99 := hid (hS.1.below HB.out hS.1.lt); have V99 := hid (hS.2.1.below HB.out hS.2.1.lt); have U99 := hid (hS.2.2.below HB.out hS.2.2.lt); clear hu hb HB hS)
              refine hK.out _ _ ⟨S99.out, V99.out, U99.out⟩ (fun hS => ?_)
              clear hK KK
              try simp only [Act.put, List.setIfInBounds_toArray, List.set_cons_zero, List.set_cons_succ]
              refine take_at (i := 10) (v := ?_) rfl rfl (by kernel_rfl) (by kernel_rfl) (by kernel_rfl) (fun _ _ _ h => h) (Or.inl ⟨by rfl, ?_⟩) hS ?_
              rotate_left
              · intro w hSw; (try dsimp only at hSw); go_simp; try with_reducible rfl
              try simp only [List.setIfInBounds_toArray, List.set_cons_zero, List.set_cons_succ]
              refine take_at (i := 11) (v := ?_) rfl rfl (by kernel_rfl) (by kernel_rfl) (by kernel_rfl) (fun _ _ _ h => h) (Or.inl ⟨by rfl, ?_⟩) hS ?_
              rotate_left
              · intro w hSw; (try dsimp only at hSw); go_simp; try with_reducible rfl
              try simp only [List.setIfInBounds_toArray, List.set_cons_zero, List.set_cons_succ]
              refine take_at (i := 12) (v := ?_) rfl rfl (by kernel_rfl) (by kernel_rfl) (by kernel_rfl) (fun _ _ _ h => h) (Or.inl ⟨by rfl, ?_⟩) hS ?_
              rotate_left
              · intro w hSw; (try dsimp only at hSw); go_simp; try with_reducible rfl
              try simp only [List.setIfInBounds_toArray, List.set_cons_zero, List.set_cons_succ]
              refine take_at (i := 13) (v := ?_) rfl rfl (by kernel_rfl) (by kernel_rfl) (by kernel_rfl) (fun _ _ _ h => h) (Or.inl ⟨by rfl, ?_⟩) hS ?_
              rotate_left
              · intro w hSw; (try dsimp only at hSw); go_simp; try with_reducible rfl
              try simp only [List.setIfInBounds_toArray, List.set_cons_zero, List.set_cons_succ]
              refine wpAnyH_done (by kernel_rfl) ?_ _
              simp only [Sure, Exit.then]
              clear hS
              go_wp2
              go_ret2
              exact path_ok rfl HC.out OK.out RS.out RU.out BZ.out
            · refine step_make Try.underlying39 infoR (n := N) (by omega) (by omega) rfl rfl rfl rfl ?_
              have K3 := hid (K2.out.alloc K2.out.size (.cells (madeCells (Value.agg #[.int .i64 0, .int .i64 0]).cells (N * 2)) 60))
              have S3 := hid (Blk.alloc hS.1 (.cells (madeCells (Value.agg #[.int .i64 0, .int .i64 0]).cells (N * 2)) 60))
              have V3 := hid (Blk.alloc hS.2.1 (.cells (madeCells (Value.agg #[.int .i64 0, .int .i64 0]).cells (N * 2)) 60))
              have U3 := hid (Blk.alloc hS.2.2 (.cells (madeCells (Value.agg #[.int .i64 0, .int .i64 0]).cells (N * 2)) 60))
              have ZR3 := hid (show Rds Nn (t2.alloc (.cells (madeCells (Value.agg #[.int .i64 0, .int .i64 0]).cells (N * 2)) 60)) 2 (some ⟨t2.heap.size, 0, none⟩) N (ints (List.replicate N [0, 0]).flatten) from zero_pairs t2 N 60)
              have RR3 := hid (RR2.out.allocS (.cells (madeCells (Value.agg #[.int .i64 0, .int .i64 0]).cells (N * 2)) 60))
              refine hK.out _ _ ⟨S3.out, V3.out, U3.out⟩ (fun hS => ?_)
              clear hK KK
              try simp only [Act.put, List.setIfInBounds_toArray, List.set_cons_zero, List.set_cons_succ]
              generalize t2.heap.size = mb at ZR3 ⊢
              generalize (t2.alloc (.cells (madeCells (Value.agg #[.int .i64 0, .int .i64 0]).cells (N * 2)) 60)) = t3 at K3 S3 V3 U3 ZR3 RR3 hS ⊢
              refine wpAnyH_ready (rs := [6]) (by kernel_rfl) (by simp) ?_
              refine (AllReadyH.cons rfl (fun KK hK => ?_) AllReadyH.nil)
              go_simp
              (go_at_call 32; refine (repeat_any [.int .i64 t.bs, .int .i64 t.mo] _ _ N _ (RR3.out.below (by first | exact Below.refl _ _ | exact Below.drew (Below.refl _ _))) (by intro u hu; simp at hu; rcases hu with rfl | rfl <;> rfl) (by omega)).mono ?_; rintro e t4 ⟨u, rfl, hu, hb⟩)
              obtain ⟨Ar, cr, rfl, _, _⟩ := own_form hu
              have HB := hid (show Below t3.heap.size t3 t4 from by first | exact hb | exact (Below.drew (Below.refl _ _)).trans hb)
              have K4 := hid (K3.out.trans (HB.out.mono K3.out.size))
              have RO4 := hid (rep_ints (Rds.own hu (S := Nn) (fun _ _ => id)))
              have ZR4 := hid (ZR3.out.below HB.out)
              have S4 := hid (hS.1.below HB.out hS.1.lt)
              have V4 := hid (hS.2.1.below HB.out hS.2.1.lt)
              have U4 := hid (hS.2.2.below HB.out hS.2.2.lt)
              clear hu hb HB hS
              refine hK.out _ _ ⟨S4.out, V4.out, U4.out⟩ (fun hS => ?_)
              clear hK KK
              try simp only [Act.put, List.setIfInBounds_toArray, List.set_cons_zero, List.set_cons_succ]
              refine wpAnyH_ready (rs := [9]) (by kernel_rfl) (by simp) ?_
              refine AllReadyH.cons rfl (fun KK hK => ?_) AllReadyH.nil
              go_simp
              (go_at_call 31; refine (wrun_any b m cp oB oM vB vM Ar (some ⟨mb, 0, none⟩) cr N N N (List.replicate N [t.bs, t.mo]) (List.replicate N [0, 0]) _ (RO4.out.below (by first | exact Below.refl _ _ | exact Below.drew (Below.refl _ _))) (ZR4.out.below (by first | exact Below.refl _ _ | exact Below.drew (Below.refl _ _))) (rep_two _ _ _) (rep_two _ _ _) (by simp) (by simp) (by omega) (by omega)).mono ?_; rintro e wz ⟨u, rfl, hu, hb⟩; have RU := hid hu; have HB := hid (show Below t4.heap.size t4 wz from by first | exact hb | exact (Below.drew (Below.refl _ _)).trans hb); have BZ := hid (B9.out.trans ((K4.out.trans (HB.out.mono K4.out.size)).mono B9.out.size)); have S99 := hid (hS.1.below HB.out hS.1.lt); have V99 := hid (hS.2.1.below HB.out hS.2.1.lt); have U99 := hid (hS.2.2.below HB.out hS.2.2.lt); clear hu hb HB hS)
              refine hK.out _ _ ⟨S99.out, V99.out, U99.out⟩ (fun hS => ?_)
              clear hK KK
              try simp only [Act.put, List.setIfInBounds_toArray, List.set_cons_zero, List.set_cons_succ]
              refine take_at (i := 10) (v := ?_) rfl rfl (by kernel_rfl) (by kernel_rfl) (by kernel_rfl) (fun _ _ _ h => h) (Or.inl ⟨by rfl, ?_⟩) hS ?_
              rotate_left
              · intro w hSw; (try dsimp only at hSw); go_simp; try with_reducible rfl
              try simp only [List.setIfInBounds_toArray, List.set_cons_zero, List.set_cons_succ]
              refine take_at (i := 11) (v := ?_) rfl rfl (by kernel_rfl) (by kernel_rfl) (by kernel_rfl) (fun _ _ _ h => h) (Or.inl ⟨by rfl, ?_⟩) hS ?_
              rotate_left
              · intro w hSw; (try dsimp only at hSw); go_simp; try with_reducible rfl
              try simp only [List.setIfInBounds_toArray, List.set_cons_zero, List.set_cons_succ]
              refine take_at (i := 12) (v := ?_) rfl rfl (by kernel_rfl) (by kernel_rfl) (by kernel_rfl) (fun _ _ _ h => h) (Or.inl ⟨by rfl, ?_⟩) hS ?_
              rotate_left
              · intro w hSw; (try dsimp only at hSw); go_simp; try with_reducible rfl
              try simp only [List.setIfInBounds_toArray, List.set_cons_zero, List.set_cons_succ]
              refine take_at (i := 13) (v := ?_) rfl rfl (by kernel_rfl) (by kernel_rfl) (by kernel_rfl) (fun _ _ _ h => h) (Or.inl ⟨by rfl, ?_⟩) hS ?_
              rotate_left
              · intro w hSw; (try dsimp only at hSw); go_simp; try with_reducible rfl
              try simp only [List.setIfInBounds_toArray, List.set_cons_zero, List.set_cons_succ]
              refine wpAnyH_done (by kernel_rfl) ?_ _
              simp only [Sure, Exit.then]
              clear hS
              go_wp2
              go_ret2
              exact path_ok rfl HC.out OK.out RS.out RU.out BZ.out
          · refine step_make Try.underlying39 infoR (n := N) (by omega) (by omega) rfl rfl rfl rfl ?_
            have K2 := hid (K1.out.alloc K1.out.size (.cells (madeCells (Value.agg #[.int .i64 0, .int .i64 0]).cells (N * 2)) 60))
            have S2 := hid (Blk.alloc hS.1 (.cells (madeCells (Value.agg #[.int .i64 0, .int .i64 0]).cells (N * 2)) 60))
            have V2 := hid (Blk.alloc hS.2.1 (.cells (madeCells (Value.agg #[.int .i64 0, .int .i64 0]).cells (N * 2)) 60))
            have U2 := hid (Blk.alloc hS.2.2 (.cells (madeCells (Value.agg #[.int .i64 0, .int .i64 0]).cells (N * 2)) 60))
            have ZR2 := hid (show Rds Nn (t1.alloc (.cells (madeCells (Value.agg #[.int .i64 0, .int .i64 0]).cells (N * 2)) 60)) 2 (some ⟨t1.heap.size, 0, none⟩) N (ints (List.replicate N [0, 0]).flatten) from zero_pairs t1 N 60)
            refine hK.out _ _ ⟨S2.out, V2.out, U2.out⟩ (fun hS => ?_)
            clear hK KK
            try simp only [Act.put, List.setIfInBounds_toArray, List.set_cons_zero, List.set_cons_succ]
            generalize t1.heap.size = mb at ZR2 ⊢
            generalize (t1.alloc (.cells (madeCells (Value.agg #[.int .i64 0, .int .i64 0]).cells (N * 2)) 60)) = t2 at K2 S2 V2 U2 ZR2 hS ⊢
            refine wpAnyH_ready (rs := [4]) (by kernel_rfl) (by simp) ?_
            refine (AllReadyH.cons rfl (fun KK hK => ?_) AllReadyH.nil)
            go_simp
            have K3 := hid (K2.out.alloc K2.out.size (.cells #[.int .i64 t.bs, .int .i64 t.mo] 60))
            have S3 := hid (Blk.alloc hS.1 (.cells #[.int .i64 t.bs, .int .i64 t.mo] 60))
            have V3 := hid (Blk.alloc hS.2.1 (.cells #[.int .i64 t.bs, .int .i64 t.mo] 60))
            have U3 := hid (Blk.alloc hS.2.2 (.cells #[.int .i64 t.bs, .int .i64 t.mo] 60))
            have RR3 := hid (Rds.pairAt t2 t2.heap.size (.int .i64 t.bs) (.int .i64 t.mo) 60 rfl)
            have ZR3 := hid (ZR2.out.allocS (.cells #[.int .i64 t.bs, .int .i64 t.mo] 60))
            refine hK.out _ _ ⟨S3.out, V3.out, U3.out⟩ (fun hS => ?_)
            clear hK KK
            try simp only [Act.put, List.setIfInBounds_toArray, List.set_cons_zero, List.set_cons_succ]
            generalize t2.heap.size = rb at RR3 ⊢
            generalize (t2.alloc (.cells #[.int .i64 t.bs, .int .i64 t.mo] 60)) = t3 at K3 S3 V3 U3 RR3 ZR3 hS ⊢
            refine wpAnyH_ready (rs := [6]) (by kernel_rfl) (by simp) ?_
            refine (AllReadyH.cons rfl (fun KK hK => ?_) AllReadyH.nil)
            go_simp
            (go_at_call 32; refine (repeat_any [.int .i64 t.bs, .int .i64 t.mo] _ _ N _ (RR3.out.below (by first | exact Below.refl _ _ | exact Below.drew (Below.refl _ _))) (by intro u hu; simp at hu; rcases hu with rfl | rfl <;> rfl) (by omega)).mono ?_; rintro e t4 ⟨u, rfl, hu, hb⟩)
            obtain ⟨Ar, cr, rfl, _, _⟩ := own_form hu
            have HB := hid (show Below t3.heap.size t3 t4 from by first | exact hb | exact (Below.drew (Below.refl _ _)).trans hb)
            have K4 := hid (K3.out.trans (HB.out.mono K3.out.size))
            have RO4 := hid (rep_ints (Rds.own hu (S := Nn) (fun _ _ => id)))
            have ZR4 := hid (ZR3.out.below HB.out)
            have S4 := hid (hS.1.below HB.out hS.1.lt)
            have V4 := hid (hS.2.1.below HB.out hS.2.1.lt)
            have U4 := hid (hS.2.2.below HB.out hS.2.2.lt)
            clear hu hb HB hS
            refine hK.out _ _ ⟨S4.out, V4.out, U4.out⟩ (fun hS => ?_)
            clear hK KK
            try simp only [Act.put, List.setIfInBounds_toArray, List.set_cons_zero, List.set_cons_succ]
            refine wpAnyH_ready (rs := [9]) (by kernel_rfl) (by simp) ?_
            refine AllReadyH.cons rfl (fun KK hK => ?_) AllReadyH.nil
            go_simp
            (go_at_call 31; refine (wrun_any b m cp oB oM vB vM Ar (some ⟨mb, 0, none⟩) cr N N N (List.replicate N [t.bs, t.mo]) (List.replicate N [0, 0]) _ (RO4.out.below (by first | exact Below.refl _ _ | exact Below.drew (Below.refl _ _))) (ZR4.out.below (by first | exact Below.refl _ _ | exact Below.drew (Below.refl _ _))) (rep_two _ _ _) (rep_two _ _ _) (by simp) (by simp) (by omega) (by omega)).mono ?_; rintro e wz ⟨u, rfl, hu, hb⟩; have RU := hid hu; have HB := hid (show Below t4.heap.size t4 wz from by first | exact hb | exact (Below.drew (Below.refl _ _)).trans hb); have BZ := hid (B9.out.trans ((K4.out.trans (HB.out.mono K4.out.size)).mono B9.out.size)); have S99 := hid (hS.1.below HB.out hS.1.lt); have V99 := hid (hS.2.1.below HB.out hS.2.1.lt); have U99 := hid (hS.2.2.below HB.out hS.2.2.lt); clear hu hb HB hS)
            refine hK.out _ _ ⟨S99.out, V99.out, U99.out⟩ (fun hS => ?_)
            clear hK KK
            try simp only [Act.put, List.setIfInBounds_toArray, List.set_cons_zero, List.set_cons_succ]
            refine take_at (i := 10) (v := ?_) rfl rfl (by kernel_rfl) (by kernel_rfl) (by kernel_rfl) (fun _ _ _ h => h) (Or.inl ⟨by rfl, ?_⟩) hS ?_
            rotate_left
            · intro w hSw; (try dsimp only at hSw); go_simp; try with_reducible rfl
            try simp only [List.setIfInBounds_toArray, List.set_cons_zero, List.set_cons_succ]
            refine take_at (i := 11) (v := ?_) rfl rfl (by kernel_rfl) (by kernel_rfl) (by kernel_rfl) (fun _ _ _ h => h) (Or.inl ⟨by rfl, ?_⟩) hS ?_
            rotate_left
            · intro w hSw; (try dsimp only at hSw); go_simp; try with_reducible rfl
            try simp only [List.setIfInBounds_toArray, List.set_cons_zero, List.set_cons_succ]
            refine take_at (i := 12) (v := ?_) rfl rfl (by kernel_rfl) (by kernel_rfl) (by kernel_rfl) (fun _ _ _ h => h) (Or.inl ⟨by rfl, ?_⟩) hS ?_
            rotate_left
            · intro w hSw; (try dsimp only at hSw); go_simp; try with_reducible rfl
            try simp only [List.setIfInBounds_toArray, List.set_cons_zero, List.set_cons_succ]
            refine take_at (i := 13) (v := ?_) rfl rfl (by kernel_rfl) (by kernel_rfl) (by kernel_rfl) (fun _ _ _ h => h) (Or.inl ⟨by rfl, ?_⟩) hS ?_
            rotate_left
            · intro w hSw; (try dsimp only at hSw); go_simp; try with_reducible rfl
            try simp only [List.setIfInBounds_toArray, List.set_cons_zero, List.set_cons_succ]
            refine wpAnyH_done (by kernel_rfl) ?_ _
            simp only [Sure, Exit.then]
            clear hS
            go_wp2
            go_ret2
            exact path_ok rfl HC.out OK.out RS.out RU.out BZ.out
        · refine step_make Try.underlying39 infoR (n := N) (by omega) (by omega) rfl rfl rfl rfl ?_
          have K1 := hid (K0.out.alloc K0.out.size (.cells (madeCells (Value.agg #[.int .i64 0, .int .i64 0]).cells (N * 2)) 60))
          have S1 := hid (Blk.alloc hS.1 (.cells (madeCells (Value.agg #[.int .i64 0, .int .i64 0]).cells (N * 2)) 60))
          have V1 := hid (Blk.alloc hS.2.1 (.cells (madeCells (Value.agg #[.int .i64 0, .int .i64 0]).cells (N * 2)) 60))
          have U1 := hid (Blk.alloc hS.2.2 (.cells (madeCells (Value.agg #[.int .i64 0, .int .i64 0]).cells (N * 2)) 60))
          have ZR1 := hid (show Rds Nn (w9.drew.alloc (.cells (madeCells (Value.agg #[.int .i64 0, .int .i64 0]).cells (N * 2)) 60)) 2 (some ⟨w9.drew.heap.size, 0, none⟩) N (ints (List.replicate N [0, 0]).flatten) from zero_pairs w9.drew N 60)
          refine hK.out _ _ ⟨S1.out, V1.out, U1.out⟩ (fun hS => ?_)
          clear hK KK
          try simp only [Act.put, List.setIfInBounds_toArray, List.set_cons_zero, List.set_cons_succ]
          generalize w9.drew.heap.size = mb at ZR1 ⊢
          generalize (w9.drew.alloc (.cells (madeCells (Value.agg #[.int .i64 0, .int .i64 0]).cells (N * 2)) 60)) = t1 at K1 S1 V1 U1 ZR1 hS ⊢
          refine wpAnyH_ready (rs := [3]) (by kernel_rfl) (by simp) ?_
          refine (AllReadyH.cons rfl (fun KK hK => ?_) AllReadyH.nil)
          go_simp
          (go_at_call 30; refine (ctarget_any t _).mono ?_; rintro e t2 ⟨rfl, hb⟩)
          have HB := hid (show Below t1.heap.size t1 t2 from by first | exact hb | exact (Below.drew (Below.refl _ _)).trans hb)
          have K2 := hid (K1.out.trans (HB.out.mono K1.out.size))
          have ZR2 := hid (ZR1.out.below HB.out)
          have S2 := hid (hS.1.below HB.out hS.1.lt)
          have V2 := hid (hS.2.1.below HB.out hS.2.1.lt)
          have U2 := hid (hS.2.2.below HB.out hS.2.2.lt)
          clear hb HB hS
          refine hK.out _ _ ⟨S2.out, V2.out, U2.out⟩ (fun hS => ?_)
          clear hK KK
          try simp only [Act.put, List.setIfInBounds_toArray, List.set_cons_zero, List.set_cons_succ]
          refine wpAnyH_ready (rs := [4]) (by kernel_rfl) (by simp) ?_
          refine (AllReadyH.cons rfl (fun KK hK => ?_) AllReadyH.nil)
          go_simp
          have K3 := hid (K2.out.alloc K2.out.size (.cells #[.int .i64 t.bs, .int .i64 t.mo] 60))
          have S3 := hid (Blk.alloc hS.1 (.cells #[.int .i64 t.bs, .int .i64 t.mo] 60))
          have V3 := hid (Blk.alloc hS.2.1 (.cells #[.int .i64 t.bs, .int .i64 t.mo] 60))
          have U3 := hid (Blk.alloc hS.2.2 (.cells #[.int .i64 t.bs, .int .i64 t.mo] 60))
          have RR3 := hid (Rds.pairAt t2 t2.heap.size (.int .i64 t.bs) (.int .i64 t.mo) 60 rfl)
          have ZR3 := hid (ZR2.out.allocS (.cells #[.int .i64 t.bs, .int .i64 t.mo] 60))
          refine hK.out _ _ ⟨S3.out, V3.out, U3.out⟩ (fun hS => ?_)
          clear hK KK
          try simp only [Act.put, List.setIfInBounds_toArray, List.set_cons_zero, List.set_cons_succ]
          generalize t2.heap.size = rb at RR3 ⊢
          generalize (t2.alloc (.cells #[.int .i64 t.bs, .int .i64 t.mo] 60)) = t3 at K3 S3 V3 U3 RR3 ZR3 hS ⊢
          refine wpAnyH_ready (rs := [6]) (by kernel_rfl) (by simp) ?_
          refine (AllReadyH.cons rfl (fun KK hK => ?_) AllReadyH.nil)
          go_simp
          (go_at_call 32; refine (repeat_any [.int .i64 t.bs, .int .i64 t.mo] _ _ N _ (RR3.out.below (by first | exact Below.refl _ _ | exact Below.drew (Below.refl _ _))) (by intro u hu; simp at hu; rcases hu with rfl | rfl <;> rfl) (by omega)).mono ?_; rintro e t4 ⟨u, rfl, hu, hb⟩)
          obtain ⟨Ar, cr, rfl, _, _⟩ := own_form hu
          have HB := hid (show Below t3.heap.size t3 t4 from by first | exact hb | exact (Below.drew (Below.refl _ _)).trans hb)
          have K4 := hid (K3.out.trans (HB.out.mono K3.out.size))
          have RO4 := hid (rep_ints (Rds.own hu (S := Nn) (fun _ _ => id)))
          have ZR4 := hid (ZR3.out.below HB.out)
          have S4 := hid (hS.1.below HB.out hS.1.lt)
          have V4 := hid (hS.2.1.below HB.out hS.2.1.lt)
          have U4 := hid (hS.2.2.below HB.out hS.2.2.lt)
          clear hu hb HB hS
          refine hK.out _ _ ⟨S4.out, V4.out, U4.out⟩ (fun hS => ?_)
          clear hK KK
          try simp only [Act.put, List.setIfInBounds_toArray, List.set_cons_zero, List.set_cons_succ]
          refine wpAnyH_ready (rs := [9]) (by kernel_rfl) (by simp) ?_
          refine AllReadyH.cons rfl (fun KK hK => ?_) AllReadyH.nil
          go_simp
          (go_at_call 31; refine (wrun_any b m cp oB oM vB vM Ar (some ⟨mb, 0, none⟩) cr N N N (List.replicate N [t.bs, t.mo]) (List.replicate N [0, 0]) _ (RO4.out.below (by first | exact Below.refl _ _ | exact Below.drew (Below.refl _ _))) (ZR4.out.below (by first | exact Below.refl _ _ | exact Below.drew (Below.refl _ _))) (rep_two _ _ _) (rep_two _ _ _) (by simp) (by simp) (by omega) (by omega)).mono ?_; rintro e wz ⟨u, rfl, hu, hb⟩; have RU := hid hu; have HB := hid (show Below t4.heap.size t4 wz from by first | exact hb | exact (Below.drew (Below.refl _ _)).trans hb); have BZ := hid (B9.out.trans ((K4.out.trans (HB.out.mono K4.out.size)).mono B9.out.size)); have S99 := hid (hS.1.below HB.out hS.1.lt); have V99 := hid (hS.2.1.below HB.out hS.2.1.lt); have U99 := hid (hS.2.2.below HB.out hS.2.2.lt); clear hu hb HB hS)
          refine hK.out _ _ ⟨S99.out, V99.out, U99.out⟩ (fun hS => ?_)
          clear hK KK
          try simp only [Act.put, List.setIfInBounds_toArray, List.set_cons_zero, List.set_cons_succ]
          refine take_at (i := 10) (v := ?_) rfl rfl (by kernel_rfl) (by kernel_rfl) (by kernel_rfl) (fun _ _ _ h => h) (Or.inl ⟨by rfl, ?_⟩) hS ?_
          rotate_left
          · intro w hSw; (try dsimp only at hSw); go_simp; try with_reducible rfl
          try simp only [List.setIfInBounds_toArray, List.set_cons_zero, List.set_cons_succ]
          refine take_at (i := 11) (v := ?_) rfl rfl (by kernel_rfl) (by kernel_rfl) (by kernel_rfl) (fun _ _ _ h => h) (Or.inl ⟨by rfl, ?_⟩) hS ?_
          rotate_left
          · intro w hSw; (try dsimp only at hSw); go_simp; try with_reducible rfl
          try simp only [List.setIfInBounds_toArray, List.set_cons_zero, List.set_cons_succ]
          refine take_at (i := 12) (v := ?_) rfl rfl (by kernel_rfl) (by kernel_rfl) (by kernel_rfl) (fun _ _ _ h => h) (Or.inl ⟨by rfl, ?_⟩) hS ?_
          rotate_left
          · intro w hSw; (try dsimp only at hSw); go_simp; try with_reducible rfl
          try simp only [List.setIfInBounds_toArray, List.set_cons_zero, List.set_cons_succ]
          refine take_at (i := 13) (v := ?_) rfl rfl (by kernel_rfl) (by kernel_rfl) (by kernel_rfl) (fun _ _ _ h => h) (Or.inl ⟨by rfl, ?_⟩) hS ?_
          rotate_left
          · intro w hSw; (try dsimp only at hSw); go_simp; try with_reducible rfl
          try simp only [List.setIfInBounds_toArray, List.set_cons_zero, List.set_cons_succ]
          refine wpAnyH_done (by kernel_rfl) ?_ _
          simp only [Sure, Exit.then]
          clear hS
          go_wp2
          go_ret2
          exact path_ok rfl HC.out OK.out RS.out RU.out BZ.out
      · go_simp
        have K2 := hid (K1.out.alloc K1.out.size (.cells #[.int .i64 0, .int .i64 0, .int .i64 0, .int .i64 0] 63))
        have S2 := hid (Blk.alloc hS.1 (.cells #[.int .i64 0, .int .i64 0, .int .i64 0, .int .i64 0] 63))
        have V2 := hid (Blk.alloc hS.2.1 (.cells #[.int .i64 0, .int .i64 0, .int .i64 0, .int .i64 0] 63))
        have U2 := hid (Blk.alloc hS.2.2 (.cells #[.int .i64 0, .int .i64 0, .int .i64 0, .int .i64 0] 63))
        have Z2 := hid (Blk.at_new t1 (b := t1.heap.size) (t := 63) (cs := #[.int .i64 0, .int .i64 0, .int .i64 0, .int .i64 0]) rfl)
        have G2 : Hid (w7.heap.size ≤ t1.heap.size) := hid K1.out.size
        refine hK.out _ _ ⟨S2.out, V2.out, U2.out⟩ (fun hS => ?_)
        clear hK KK
        try simp only [Act.put, List.setIfInBounds_toArray, List.set_cons_zero, List.set_cons_succ]
        generalize hzb : t1.heap.size = zb at Z2 G2 ⊢
        generalize (t1.alloc (.cells #[.int .i64 0, .int .i64 0, .int .i64 0, .int .i64 0] 63)) = t2 at K2 S2 V2 U2 Z2 hS ⊢
        clear hzb
        have GZ := hid G2.out
        refine wpAnyH_ready (rs := [3]) (by kernel_rfl) (by simp) ?_
        refine (AllReadyH.cons rfl (fun KK hK => ?_) AllReadyH.nil)
        go_simp
        (go_at_call 25; refine (wrests_any b m cp f.bs f.mo _).mono ?_; rintro e t3 ⟨oB, oM, vB, vM, er, rfl, hrs, hb⟩)
        obtain rfl := rest_er hrs HC.out (by have := fit_yes HF.out; omega) (by have := fit_yes HF.out; omega)
        have RS := hid hrs
        clear hrs
        have HB := hid (show Below t2.heap.size t2 t3 from by first | exact hb | exact (Below.drew (Below.refl _ _)).trans hb)
        have K3 := hid (K2.out.trans (HB.out.mono K2.out.size))
        have S3 := hid (hS.1.below HB.out hS.1.lt)
        have V3 := hid (hS.2.1.below HB.out hS.2.1.lt)
        have U3 := hid (hS.2.2.below HB.out hS.2.2.lt)
        have Z3 := hid (Z2.out.below HB.out Z2.out.lt)
        clear hb HB hS
        refine hK.out _ _ ⟨S3.out, V3.out, U3.out⟩ (fun hS => ?_)
        clear hK KK
        try simp only [Act.put, List.setIfInBounds_toArray, List.set_cons_zero, List.set_cons_succ]
        refine take_at (i := 4) (v := ?_) rfl rfl (by kernel_rfl) (by kernel_rfl) (by kernel_rfl) (fun _ _ _ h => h) (Or.inl ⟨by rfl, ?_⟩) hS ?_
        rotate_left
        · intro w hSw; (try dsimp only at hSw); go_simp; try with_reducible rfl
        try simp only [List.setIfInBounds_toArray, List.set_cons_zero, List.set_cons_succ]
        refine take_at (i := 5) (v := ?_) rfl rfl (by kernel_rfl) (by kernel_rfl) (by kernel_rfl) (fun _ _ _ h => h) (Or.inl ⟨by rfl, ?_⟩) hS ?_
        rotate_left
        · intro w hSw; (try dsimp only at hSw); go_simp; try with_reducible rfl
        try simp only [List.setIfInBounds_toArray, List.set_cons_zero, List.set_cons_succ]
        refine take_at (i := 6) (v := ?_) rfl rfl (by kernel_rfl) (by kernel_rfl) (by kernel_rfl) (fun _ _ _ h => h) (Or.inl ⟨by rfl, ?_⟩) hS ?_
        rotate_left
        · intro w hSw; (try dsimp only at hSw); go_simp; try with_reducible rfl
        try simp only [List.setIfInBounds_toArray, List.set_cons_zero, List.set_cons_succ]
        have NW : w.heap.size ≠ zb ∧ w.heap.size + 1 ≠ zb ∧ w.heap.size + 1 + 1 ≠ zb := by have h1 := GZ.out; have h2 := T7.out.lt; omega
        refine wpAnyH_ready (rs := [8]) (by kernel_rfl) (by simp) ?_
        refine AllReadyH.cons rfl (fun KK hK => ?_) AllReadyH.nil
        refine step_store_blk (t := 63) (e := 63) (cs0 := #[.int .i64 0, .int .i64 0, .int .i64 0, .int .i64 0]) (cs := #[.int .i64 oB, .int .i64 oM, .int .i64 vB, .int .i64 vM]) Z3.out (by kernel_rfl) rfl (by simp [Value.oneCell']) rfl rfl rfl rfl ?_
        refine hK.out _ _ ⟨Blk.rowOther hS.1 NW.1 _, Blk.rowOther hS.2.1 NW.2.1 _, Blk.rowOther hS.2.2 NW.2.2 _⟩ (fun hS => ?_)
        clear hK KK
        try simp only [Act.put, List.setIfInBounds_toArray, List.set_cons_zero, List.set_cons_succ]
        refine take_at (i := 9) (v := ?_) rfl rfl (by kernel_rfl) (by kernel_rfl) (by kernel_rfl) (fun _ _ _ h => h) (Or.inl ⟨by rfl, ?_⟩) hS ?_
        rotate_left
        · intro w hSw; (try dsimp only at hSw); go_simp; try with_reducible rfl
        try simp only [List.setIfInBounds_toArray, List.set_cons_zero, List.set_cons_succ]
        refine wpAnyH_done (by kernel_rfl) ?_ _
        simp only [Sure, Exit.then]
        have W9 := hid hS.1
        have T9 := hid hS.2.2
        have S9 := hid (Blk.row Z3.out #[.int .i64 oB, .int .i64 oM, .int .i64 vB, .int .i64 vM])
        have B9 := hid (B7.out.trans ((Below.row K3.out GZ.out #[.int .i64 oB, .int .i64 oM, .int .i64 vB, .int .i64 vM]).mono B7.out.size))
        generalize t3.setRow zb #[.int .i64 oB, .int .i64 oM, .int .i64 vB, .int .i64 vM] = w9 at W9 T9 S9 B9 hS ⊢
        clear hS
        go_upto_region 15 with fail
        refine wp_region_hand (fun w' => Blk w' w.heap.size 29 #[.int .i64 b.kp, .int .i64 b.ki, .int .i64 b.sh, .int .i64 b.lo, .int .i64 b.hi, .int .i64 b.rate, .int .i64 b.ga, .int .i64 b.la, .int .i64 b.de, .int .i64 m.kp, .int .i64 m.ki, .int .i64 m.sh, .int .i64 m.lo, .int .i64 m.hi, .int .i64 m.rate, .int .i64 m.ga, .int .i64 m.la, .int .i64 m.de, .int .i64 cp] ∧ Blk w' zb 63 #[.int .i64 oB, .int .i64 oM, .int .i64 vB, .int .i64 vM] ∧ Blk w' (w.heap.size + 1 + 1) 32 #[.string t.nm, .int .i64 t.bs, .int .i64 t.bt, .int .i64 t.mo, .int .i64 t.mt, .int .i64 t.ca, .slice t.ra t.rn t.rc, .int .i64 t.pr]) (by kernel_rfl) ?_
        simp only [List.length_cons, List.length_nil, Nat.zero_add, Nat.reduceAdd]
        have hS : Blk w9.drew w.heap.size 29 #[.int .i64 b.kp, .int .i64 b.ki, .int .i64 b.sh, .int .i64 b.lo, .int .i64 b.hi, .int .i64 b.rate, .int .i64 b.ga, .int .i64 b.la, .int .i64 b.de, .int .i64 m.kp, .int .i64 m.ki, .int .i64 m.sh, .int .i64 m.lo, .int .i64 m.hi, .int .i64 m.rate, .int .i64 m.ga, .int .i64 m.la, .int .i64 m.de, .int .i64 cp] ∧ Blk w9.drew zb 63 #[.int .i64 oB, .int .i64 oM, .int .i64 vB, .int .i64 vM] ∧ Blk w9.drew (w.heap.size + 1 + 1) 32 #[.string t.nm, .int .i64 t.bs, .int .i64 t.bt, .int .i64 t.mo, .int .i64 t.mt, .int .i64 t.ca, .slice t.ra t.rn t.rc, .int .i64 t.pr] := ⟨W9.out, S9.out, T9.out⟩
        refine take_at (i := 0) (v := .agg #[.int .i64 b.kp, .int .i64 b.ki, .int .i64 b.sh, .int .i64 b.lo, .int .i64 b.hi, .int .i64 b.rate, .int .i64 b.ga, .int .i64 b.la, .int .i64 b.de, .int .i64 m.kp, .int .i64 m.ki, .int .i64 m.sh, .int .i64 m.lo, .int .i64 m.hi, .int .i64 m.rate, .int .i64 m.ga, .int .i64 m.la, .int .i64 m.de, .int .i64 cp]) rfl rfl (by kernel_rfl) (by kernel_rfl) (by kernel_rfl) (fun _ _ _ h => h) (Or.inl ⟨by rfl, fun wi hSw => exec_loads (p := .pointer (some ⟨w.heap.size, 0, none⟩)) rfl rfl (load_blk hSw.1 Try.underlying29 rfl (by kernel_rfl))⟩) hS ?_
        try simp only [List.setIfInBounds_toArray, List.set_cons_zero, List.set_cons_succ]
        refine take_at (i := 1) (v := .agg #[.int .i64 oB, .int .i64 oM, .int .i64 vB, .int .i64 vM]) rfl rfl (by kernel_rfl) (by kernel_rfl) (by kernel_rfl) (fun _ _ _ h => h) (Or.inl ⟨by rfl, fun wi hSw => exec_loads (p := .pointer (some ⟨zb, 0, none⟩)) rfl rfl (load_blk hSw.2.1 Try.underlying63 rfl (by kernel_rfl))⟩) hS ?_
        try simp only [List.setIfInBounds_toArray, List.set_cons_zero, List.set_cons_succ]
        refine take_at (i := 2) (v := .agg #[.string t.nm, .int .i64 t.bs, .int .i64 t.bt, .int .i64 t.mo, .int .i64 t.mt, .int .i64 t.ca, .slice t.ra t.rn t.rc, .int .i64 t.pr]) rfl rfl (by kernel_rfl) (by kernel_rfl) (by kernel_rfl) (fun _ _ _ h => h) (Or.inl ⟨by rfl, fun wi hSw => exec_loads (p := .pointer (some ⟨w.heap.size + 1 + 1, 0, none⟩)) rfl rfl (load_blk hSw.2.2 Try.underlying32 rfl (by kernel_rfl))⟩) hS ?_
        try simp only [List.setIfInBounds_toArray, List.set_cons_zero, List.set_cons_succ]
        refine take_at (i := 5) (v := ?_) rfl rfl (by kernel_rfl) (by kernel_rfl) (by kernel_rfl) (fun _ _ _ h => h) (Or.inl ⟨by rfl, ?_⟩) hS ?_
        rotate_left
        · intro w hSw; (try dsimp only at hSw); go_simp; try with_reducible rfl
        try simp only [List.setIfInBounds_toArray, List.set_cons_zero, List.set_cons_succ]
        refine take_at (i := 7) (v := ?_) rfl rfl (by kernel_rfl) (by kernel_rfl) (by kernel_rfl) (fun _ _ _ h => h) (Or.inl ⟨by rfl, ?_⟩) hS ?_
        rotate_left
        · intro w hSw; (try dsimp only at hSw); go_simp; try with_reducible rfl
        try simp only [List.setIfInBounds_toArray, List.set_cons_zero, List.set_cons_succ]
        have K0 := hid (Below.drew (Below.refl w9.heap.size w9))
        refine wpAnyH_ready (rs := [3, 8]) (by kernel_rfl) (by simp) ?_
        refine (AllReadyH.cons rfl (fun KK hK => ?_) (AllReadyH.cons rfl (fun KK hK => ?_) AllReadyH.nil))
        · go_simp
          (go_at_call 30; refine (ctarget_any t _).mono ?_; rintro e t1 ⟨rfl, hb⟩)
          have HB := hid (show Below w9.drew.heap.size w9.drew t1 from by first | exact hb | exact (Below.drew (Below.refl _ _)).trans hb)
          have K1 := hid (K0.out.trans (HB.out.mono K0.out.size))
          have S1 := hid (hS.1.below HB.out hS.1.lt)
          have V1 := hid (hS.2.1.below HB.out hS.2.1.lt)
          have U1 := hid (hS.2.2.below HB.out hS.2.2.lt)
          clear hb HB hS
          refine hK.out _ _ ⟨S1.out, V1.out, U1.out⟩ (fun hS => ?_)
          clear hK KK
          try simp only [Act.put, List.setIfInBounds_toArray, List.set_cons_zero, List.set_cons_succ]
          refine wpAnyH_ready (rs := [4, 8]) (by kernel_rfl) (by simp) ?_
          refine (AllReadyH.cons rfl (fun KK hK => ?_) (AllReadyH.cons rfl (fun KK hK => ?_) AllReadyH.nil))
          · go_simp
            have K2 := hid (K1.out.alloc K1.out.size (.cells #[.int .i64 t.bs, .int .i64 t.mo] 60))
            have S2 := hid (Blk.alloc hS.1 (.cells #[.int .i64 t.bs, .int .i64 t.mo] 60))
            have V2 := hid (Blk.alloc hS.2.1 (.cells #[.int .i64 t.bs, .int .i64 t.mo] 60))
            have U2 := hid (Blk.alloc hS.2.2 (.cells #[.int .i64 t.bs, .int .i64 t.mo] 60))
            have RR2 := hid (Rds.pairAt t1 t1.heap.size (.int .i64 t.bs) (.int .i64 t.mo) 60 rfl)
            refine hK.out _ _ ⟨S2.out, V2.out, U2.out⟩ (fun hS => ?_)
            clear hK KK
            try simp only [Act.put, List.setIfInBounds_toArray, List.set_cons_zero, List.set_cons_succ]
            generalize t1.heap.size = rb at RR2 ⊢
            generalize (t1.alloc (.cells #[.int .i64 t.bs, .int .i64 t.mo] 60)) = t2 at K2 S2 V2 U2 RR2 hS ⊢
            refine wpAnyH_ready (rs := [6, 8]) (by kernel_rfl) (by simp) ?_
            refine (AllReadyH.cons rfl (fun KK hK => ?_) (AllReadyH.cons rfl (fun KK hK => ?_) AllReadyH.nil))
            · go_simp
              (go_at_call 32; refine (repeat_any [.int .i64 t.bs, .int .i64 t.mo] _ _ N _ (RR2.out.below (by first | exact Below.refl _ _ | exact Below.drew (Below.refl _ _))) (by intro u hu; simp at hu; rcases hu with rfl | rfl <;> rfl) (by omega)).mono ?_; rintro e t3 ⟨u, rfl, hu, hb⟩)
              obtain ⟨Ar, cr, rfl, _, _⟩ := own_form hu
              have HB := hid (show Below t2.heap.size t2 t3 from by first | exact hb | exact (Below.drew (Below.refl _ _)).trans hb)
              have K3 := hid (K2.out.trans (HB.out.mono K2.out.size))
              have RO3 := hid (rep_ints (Rds.own hu (S := Nn) (fun _ _ => id)))
              have S3 := hid (hS.1.below HB.out hS.1.lt)
              have V3 := hid (hS.2.1.below HB.out hS.2.1.lt)
              have U3 := hid (hS.2.2.below HB.out hS.2.2.lt)
              clear hu hb HB hS
              refine hK.out _ _ ⟨S3.out, V3.out, U3.out⟩ (fun hS => ?_)
              clear hK KK
              try simp only [Act.put, List.setIfInBounds_toArray, List.set_cons_zero, List.set_cons_succ]
              refine wpAnyH_ready (rs := [8]) (by kernel_rfl) (by simp) ?_
              refine (AllReadyH.cons rfl (fun KK hK => ?_) AllReadyH.nil)
              refine step_make Try.underlying39 infoR (n := N) (by omega) (by omega) rfl rfl rfl rfl ?_
              have K4 := hid (K3.out.alloc K3.out.size (.cells (madeCells (Value.agg #[.int .i64 0, .int .i64 0]).cells (N * 2)) 60))
              have S4 := hid (Blk.alloc hS.1 (.cells (madeCells (Value.agg #[.int .i64 0, .int .i64 0]).cells (N * 2)) 60))
              have V4 := hid (Blk.alloc hS.2.1 (.cells (madeCells (Value.agg #[.int .i64 0, .int .i64 0]).cells (N * 2)) 60))
              have U4 := hid (Blk.alloc hS.2.2 (.cells (madeCells (Value.agg #[.int .i64 0, .int .i64 0]).cells (N * 2)) 60))
              have ZR4 := hid (show Rds Nn (t3.alloc (.cells (madeCells (Value.agg #[.int .i64 0, .int .i64 0]).cells (N * 2)) 60)) 2 (some ⟨t3.heap.size, 0, none⟩) N (ints (List.replicate N [0, 0]).flatten) from zero_pairs t3 N 60)
              have RO4 := hid (RO3.out.allocS (.cells (madeCells (Value.agg #[.int .i64 0, .int .i64 0]).cells (N * 2)) 60))
              refine hK.out _ _ ⟨S4.out, V4.out, U4.out⟩ (fun hS => ?_)
              clear hK KK
              try simp only [Act.put, List.setIfInBounds_toArray, List.set_cons_zero, List.set_cons_succ]
              generalize t3.heap.size = mb at ZR4 ⊢
              generalize (t3.alloc (.cells (madeCells (Value.agg #[.int .i64 0, .int .i64 0]).cells (N * 2)) 60)) = t4 at K4 S4 V4 U4 ZR4 RO4 hS ⊢
              refine wpAnyH_ready (rs := [9]) (by kernel_rfl) (by simp) ?_
              refine AllReadyH.cons rfl (fun KK hK => ?_) AllReadyH.nil
              go_simp
              (go_at_call 31; refine (wrun_any b m cp oB oM vB vM Ar (some ⟨mb, 0, none⟩) cr N N N (List.replicate N [t.bs, t.mo]) (List.replicate N [0, 0]) _ (RO4.out.below (by first | exact Below.refl _ _ | exact Below.drew (Below.refl _ _))) (ZR4.out.below (by first | exact Below.refl _ _ | exact Below.drew (Below.refl _ _))) (rep_two _ _ _) (rep_two _ _ _) (by simp) (by simp) (by omega) (by omega)).mono ?_; rintro e wz ⟨u, rfl, hu, hb⟩; have RU := hid hu; have HB := hid (show Below t4.heap.size t4 wz from by first | exact hb | exact (Below.drew (Below.refl _ _)).trans hb); have BZ := hid (B9.out.trans ((K4.out.trans (HB.out.mono K4.out.size)).mono B9.out.size)); have S99 := hid (hS.1.below HB.out hS.1.lt); have V99 := hid (hS.2.1.below HB.out hS.2.1.lt); have U99 := hid (hS.2.2.below HB.out hS.2.2.lt); clear hu hb HB hS)
              refine hK.out _ _ ⟨S99.out, V99.out, U99.out⟩ (fun hS => ?_)
              clear hK KK
              try simp only [Act.put, List.setIfInBounds_toArray, List.set_cons_zero, List.set_cons_succ]
              refine take_at (i := 10) (v := ?_) rfl rfl (by kernel_rfl) (by kernel_rfl) (by kernel_rfl) (fun _ _ _ h => h) (Or.inl ⟨by rfl, ?_⟩) hS ?_
              rotate_left
              · intro w hSw; (try dsimp only at hSw); go_simp; try with_reducible rfl
              try simp only [List.setIfInBounds_toArray, List.set_cons_zero, List.set_cons_succ]
              refine take_at (i := 11) (v := ?_) rfl rfl (by kernel_rfl) (by kernel_rfl) (by kernel_rfl) (fun _ _ _ h => h) (Or.inl ⟨by rfl, ?_⟩) hS ?_
              rotate_left
              · intro w hSw; (try dsimp only at hSw); go_simp; try with_reducible rfl
              try simp only [List.setIfInBounds_toArray, List.set_cons_zero, List.set_cons_succ]
              refine take_at (i := 12) (v := ?_) rfl rfl (by kernel_rfl) (by kernel_rfl) (by kernel_rfl) (fun _ _ _ h => h) (Or.inl ⟨by rfl, ?_⟩) hS ?_
              rotate_left
              · intro w hSw; (try dsimp only at hSw); go_simp; try with_reducible rfl
              try simp only [List.setIfInBounds_toArray, List.set_cons_zero, List.set_cons_succ]
              refine take_at (i := 13) (v := ?_) rfl rfl (by kernel_rfl) (by kernel_rfl) (by kernel_rfl) (fun _ _ _ h => h) (Or.inl ⟨by rfl, ?_⟩) hS ?_
              rotate_left
              · intro w hSw; (try dsimp only at hSw); go_simp; try with_reducible rfl
              try simp only [List.setIfInBounds_toArray, List.set_cons_zero, List.set_cons_succ]
              refine wpAnyH_done (by kernel_rfl) ?_ _
              simp only [Sure, Exit.then]
              clear hS
              go_wp2
              go_ret2
              exact path_ok rfl HC.out OK.out RS.out RU.out BZ.out
            · refine step_make Try.underlying39 infoR (n := N) (by omega) (by omega) rfl rfl rfl rfl ?_
              have K3 := hid (K2.out.alloc K2.out.size (.cells (madeCells (Value.agg #[.int .i64 0, .int .i64 0]).cells (N * 2)) 60))
              have S3 := hid (Blk.alloc hS.1 (.cells (madeCells (Value.agg #[.int .i64 0, .int .i64 0]).cells (N * 2)) 60))
              have V3 := hid (Blk.alloc hS.2.1 (.cells (madeCells (Value.agg #[.int .i64 0, .int .i64 0]).cells (N * 2)) 60))
              have U3 := hid (Blk.alloc hS.2.2 (.cells (madeCells (Value.agg #[.int .i64 0, .int .i64 0]).cells (N * 2)) 60))
              have ZR3 := hid (show Rds Nn (t2.alloc (.cells (madeCells (Value.agg #[.int .i64 0, .int .i64 0]).cells (N * 2)) 60)) 2 (some ⟨t2.heap.size, 0, none⟩) N (ints (List.replicate N [0, 0]).flatten) from zero_pairs t2 N 60)
              have RR3 := hid (RR2.out.allocS (.cells (madeCells (Value.agg #[.int .i64 0, .int .i64 0]).cells (N * 2)) 60))
              refine hK.out _ _ ⟨S3.out, V3.out, U3.out⟩ (fun hS => ?_)
              clear hK KK
              try simp only [Act.put, List.setIfInBounds_toArray, List.set_cons_zero, List.set_cons_succ]
              generalize t2.heap.size = mb at ZR3 ⊢
              generalize (t2.alloc (.cells (madeCells (Value.agg #[.int .i64 0, .int .i64 0]).cells (N * 2)) 60)) = t3 at K3 S3 V3 U3 ZR3 RR3 hS ⊢
              refine wpAnyH_ready (rs := [6]) (by kernel_rfl) (by simp) ?_
              refine (AllReadyH.cons rfl (fun KK hK => ?_) AllReadyH.nil)
              go_simp
              (go_at_call 32; refine (repeat_any [.int .i64 t.bs, .int .i64 t.mo] _ _ N _ (RR3.out.below (by first | exact Below.refl _ _ | exact Below.drew (Below.refl _ _))) (by intro u hu; simp at hu; rcases hu with rfl | rfl <;> rfl) (by omega)).mono ?_; rintro e t4 ⟨u, rfl, hu, hb⟩)
              obtain ⟨Ar, cr, rfl, _, _⟩ := own_form hu
              have HB := hid (show Below t3.heap.size t3 t4 from by first | exact hb | exact (Below.drew (Below.refl _ _)).trans hb)
              have K4 := hid (K3.out.trans (HB.out.mono K3.out.size))
              have RO4 := hid (rep_ints (Rds.own hu (S := Nn) (fun _ _ => id)))
              have ZR4 := hid (ZR3.out.below HB.out)
              have S4 := hid (hS.1.below HB.out hS.1.lt)
              have V4 := hid (hS.2.1.below HB.out hS.2.1.lt)
              have U4 := hid (hS.2.2.below HB.out hS.2.2.lt)
              clear hu hb HB hS
              refine hK.out _ _ ⟨S4.out, V4.out, U4.out⟩ (fun hS => ?_)
              clear hK KK
              try simp only [Act.put, List.setIfInBounds_toArray, List.set_cons_zero, List.set_cons_succ]
              refine wpAnyH_ready (rs := [9]) (by kernel_rfl) (by simp) ?_
              refine AllReadyH.cons rfl (fun KK hK => ?_) AllReadyH.nil
              go_simp
              (go_at_call 31; refine (wrun_any b m cp oB oM vB vM Ar (some ⟨mb, 0, none⟩) cr N N N (List.replicate N [t.bs, t.mo]) (List.replicate N [0, 0]) _ (RO4.out.below (by first | exact Below.refl _ _ | exact Below.drew (Below.refl _ _))) (ZR4.out.below (by first | exact Below.refl _ _ | exact Below.drew (Below.refl _ _))) (rep_two _ _ _) (rep_two _ _ _) (by simp) (by simp) (by omega) (by omega)).mono ?_; rintro e wz ⟨u, rfl, hu, hb⟩; have RU := hid hu; have HB := hid (show Below t4.heap.size t4 wz from by first | exact hb | exact (Below.drew (Below.refl _ _)).trans hb); have BZ := hid (B9.out.trans ((K4.out.trans (HB.out.mono K4.out.size)).mono B9.out.size)); have S99 := hid (hS.1.below HB.out hS.1.lt); have V99 := hid (hS.2.1.below HB.out hS.2.1.lt); have U99 := hid (hS.2.2.below HB.out hS.2.2.lt); clear hu hb HB hS)
              refine hK.out _ _ ⟨S99.out, V99.out, U99.out⟩ (fun hS => ?_)
              clear hK KK
              try simp only [Act.put, List.setIfInBounds_toArray, List.set_cons_zero, List.set_cons_succ]
              refine take_at (i := 10) (v := ?_) rfl rfl (by kernel_rfl) (by kernel_rfl) (by kernel_rfl) (fun _ _ _ h => h) (Or.inl ⟨by rfl, ?_⟩) hS ?_
              rotate_left
              · intro w hSw; (try dsimp only at hSw); go_simp; try with_reducible rfl
              try simp only [List.setIfInBounds_toArray, List.set_cons_zero, List.set_cons_succ]
              refine take_at (i := 11) (v := ?_) rfl rfl (by kernel_rfl) (by kernel_rfl) (by kernel_rfl) (fun _ _ _ h => h) (Or.inl ⟨by rfl, ?_⟩) hS ?_
              rotate_left
              · intro w hSw; (try dsimp only at hSw); go_simp; try with_reducible rfl
              try simp only [List.setIfInBounds_toArray, List.set_cons_zero, List.set_cons_succ]
              refine take_at (i := 12) (v := ?_) rfl rfl (by kernel_rfl) (by kernel_rfl) (by kernel_rfl) (fun _ _ _ h => h) (Or.inl ⟨by rfl, ?_⟩) hS ?_
              rotate_left
              · intro w hSw; (try dsimp only at hSw); go_simp; try with_reducible rfl
              try simp only [List.setIfInBounds_toArray, List.set_cons_zero, List.set_cons_succ]
              refine take_at (i := 13) (v := ?_) rfl rfl (by kernel_rfl) (by kernel_rfl) (by kernel_rfl) (fun _ _ _ h => h) (Or.inl ⟨by rfl, ?_⟩) hS ?_
              rotate_left
              · intro w hSw; (try dsimp only at hSw); go_simp; try with_reducible rfl
              try simp only [List.setIfInBounds_toArray, List.set_cons_zero, List.set_cons_succ]
              refine wpAnyH_done (by kernel_rfl) ?_ _
              simp only [Sure, Exit.then]
              clear hS
              go_wp2
              go_ret2
              exact path_ok rfl HC.out OK.out RS.out RU.out BZ.out
          · refine step_make Try.underlying39 infoR (n := N) (by omega) (by omega) rfl rfl rfl rfl ?_
            have K2 := hid (K1.out.alloc K1.out.size (.cells (madeCells (Value.agg #[.int .i64 0, .int .i64 0]).cells (N * 2)) 60))
            have S2 := hid (Blk.alloc hS.1 (.cells (madeCells (Value.agg #[.int .i64 0, .int .i64 0]).cells (N * 2)) 60))
            have V2 := hid (Blk.alloc hS.2.1 (.cells (madeCells (Value.agg #[.int .i64 0, .int .i64 0]).cells (N * 2)) 60))
            have U2 := hid (Blk.alloc hS.2.2 (.cells (madeCells (Value.agg #[.int .i64 0, .int .i64 0]).cells (N * 2)) 60))
            have ZR2 := hid (show Rds Nn (t1.alloc (.cells (madeCells (Value.agg #[.int .i64 0, .int .i64 0]).cells (N * 2)) 60)) 2 (some ⟨t1.heap.size, 0, none⟩) N (ints (List.replicate N [0, 0]).flatten) from zero_pairs t1 N 60)
            refine hK.out _ _ ⟨S2.out, V2.out, U2.out⟩ (fun hS => ?_)
            clear hK KK
            try simp only [Act.put, List.setIfInBounds_toArray, List.set_cons_zero, List.set_cons_succ]
            generalize t1.heap.size = mb at ZR2 ⊢
            generalize (t1.alloc (.cells (madeCells (Value.agg #[.int .i64 0, .int .i64 0]).cells (N * 2)) 60)) = t2 at K2 S2 V2 U2 ZR2 hS ⊢
            refine wpAnyH_ready (rs := [4]) (by kernel_rfl) (by simp) ?_
            refine (AllReadyH.cons rfl (fun KK hK => ?_) AllReadyH.nil)
            go_simp
            have K3 := hid (K2.out.alloc K2.out.size (.cells #[.int .i64 t.bs, .int .i64 t.mo] 60))
            have S3 := hid (Blk.alloc hS.1 (.cells #[.int .i64 t.bs, .int .i64 t.mo] 60))
            have V3 := hid (Blk.alloc hS.2.1 (.cells #[.int .i64 t.bs, .int .i64 t.mo] 60))
            have U3 := hid (Blk.alloc hS.2.2 (.cells #[.int .i64 t.bs, .int .i64 t.mo] 60))
            have RR3 := hid (Rds.pairAt t2 t2.heap.size (.int .i64 t.bs) (.int .i64 t.mo) 60 rfl)
            have ZR3 := hid (ZR2.out.allocS (.cells #[.int .i64 t.bs, .int .i64 t.mo] 60))
            refine hK.out _ _ ⟨S3.out, V3.out, U3.out⟩ (fun hS => ?_)
            clear hK KK
            try simp only [Act.put, List.setIfInBounds_toArray, List.set_cons_zero, List.set_cons_succ]
            generalize t2.heap.size = rb at RR3 ⊢
            generalize (t2.alloc (.cells #[.int .i64 t.bs, .int .i64 t.mo] 60)) = t3 at K3 S3 V3 U3 RR3 ZR3 hS ⊢
            refine wpAnyH_ready (rs := [6]) (by kernel_rfl) (by simp) ?_
            refine (AllReadyH.cons rfl (fun KK hK => ?_) AllReadyH.nil)
            go_simp
            (go_at_call 32; refine (repeat_any [.int .i64 t.bs, .int .i64 t.mo] _ _ N _ (RR3.out.below (by first | exact Below.refl _ _ | exact Below.drew (Below.refl _ _))) (by intro u hu; simp at hu; rcases hu with rfl | rfl <;> rfl) (by omega)).mono ?_; rintro e t4 ⟨u, rfl, hu, hb⟩)
            obtain ⟨Ar, cr, rfl, _, _⟩ := own_form hu
            have HB := hid (show Below t3.heap.size t3 t4 from by first | exact hb | exact (Below.drew (Below.refl _ _)).trans hb)
            have K4 := hid (K3.out.trans (HB.out.mono K3.out.size))
            have RO4 := hid (rep_ints (Rds.own hu (S := Nn) (fun _ _ => id)))
            have ZR4 := hid (ZR3.out.below HB.out)
            have S4 := hid (hS.1.below HB.out hS.1.lt)
            have V4 := hid (hS.2.1.below HB.out hS.2.1.lt)
            have U4 := hid (hS.2.2.below HB.out hS.2.2.lt)
            clear hu hb HB hS
            refine hK.out _ _ ⟨S4.out, V4.out, U4.out⟩ (fun hS => ?_)
            clear hK KK
            try simp only [Act.put, List.setIfInBounds_toArray, List.set_cons_zero, List.set_cons_succ]
            refine wpAnyH_ready (rs := [9]) (by kernel_rfl) (by simp) ?_
            refine AllReadyH.cons rfl (fun KK hK => ?_) AllReadyH.nil
            go_simp
            (go_at_call 31; refine (wrun_any b m cp oB oM vB vM Ar (some ⟨mb, 0, none⟩) cr N N N (List.replicate N [t.bs, t.mo]) (List.replicate N [0, 0]) _ (RO4.out.below (by first | exact Below.refl _ _ | exact Below.drew (Below.refl _ _))) (ZR4.out.below (by first | exact Below.refl _ _ | exact Below.drew (Below.refl _ _))) (rep_two _ _ _) (rep_two _ _ _) (by simp) (by simp) (by omega) (by omega)).mono ?_; rintro e wz ⟨u, rfl, hu, hb⟩; have RU := hid hu; have HB := hid (show Below t4.heap.size t4 wz from by first | exact hb | exact (Below.drew (Below.refl _ _)).trans hb); have BZ := hid (B9.out.trans ((K4.out.trans (HB.out.mono K4.out.size)).mono B9.out.size)); have S99 := hid (hS.1.below HB.out hS.1.lt); have V99 := hid (hS.2.1.below HB.out hS.2.1.lt); have U99 := hid (hS.2.2.below HB.out hS.2.2.lt); clear hu hb HB hS)
            refine hK.out _ _ ⟨S99.out, V99.out, U99.out⟩ (fun hS => ?_)
            clear hK KK
            try simp only [Act.put, List.setIfInBounds_toArray, List.set_cons_zero, List.set_cons_succ]
            refine take_at (i := 10) (v := ?_) rfl rfl (by kernel_rfl) (by kernel_rfl) (by kernel_rfl) (fun _ _ _ h => h) (Or.inl ⟨by rfl, ?_⟩) hS ?_
            rotate_left
            · intro w hSw; (try dsimp only at hSw); go_simp; try with_reducible rfl
            try simp only [List.setIfInBounds_toArray, List.set_cons_zero, List.set_cons_succ]
            refine take_at (i := 11) (v := ?_) rfl rfl (by kernel_rfl) (by kernel_rfl) (by kernel_rfl) (fun _ _ _ h => h) (Or.inl ⟨by rfl, ?_⟩) hS ?_
            rotate_left
            · intro w hSw; (try dsimp only at hSw); go_simp; try with_reducible rfl
            try simp only [List.setIfInBounds_toArray, List.set_cons_zero, List.set_cons_succ]
            refine take_at (i := 12) (v := ?_) rfl rfl (by kernel_rfl) (by kernel_rfl) (by kernel_rfl) (fun _ _ _ h => h) (Or.inl ⟨by rfl, ?_⟩) hS ?_
            rotate_left
            · intro w hSw; (try dsimp only at hSw); go_simp; try with_reducible rfl
            try simp only [List.setIfInBounds_toArray, List.set_cons_zero, List.set_cons_succ]
            refine take_at (i := 13) (v := ?_) rfl rfl (by kernel_rfl) (by kernel_rfl) (by kernel_rfl) (fun _ _ _ h => h) (Or.inl ⟨by rfl, ?_⟩) hS ?_
            rotate_left
            · intro w hSw; (try dsimp only at hSw); go_simp; try with_reducible rfl
            try simp only [List.setIfInBounds_toArray, List.set_cons_zero, List.set_cons_succ]
            refine wpAnyH_done (by kernel_rfl) ?_ _
            simp only [Sure, Exit.then]
            clear hS
            go_wp2
            go_ret2
            exact path_ok rfl HC.out OK.out RS.out RU.out BZ.out
        · refine step_make Try.underlying39 infoR (n := N) (by omega) (by omega) rfl rfl rfl rfl ?_
          have K1 := hid (K0.out.alloc K0.out.size (.cells (madeCells (Value.agg #[.int .i64 0, .int .i64 0]).cells (N * 2)) 60))
          have S1 := hid (Blk.alloc hS.1 (.cells (madeCells (Value.agg #[.int .i64 0, .int .i64 0]).cells (N * 2)) 60))
          have V1 := hid (Blk.alloc hS.2.1 (.cells (madeCells (Value.agg #[.int .i64 0, .int .i64 0]).cells (N * 2)) 60))
          have U1 := hid (Blk.alloc hS.2.2 (.cells (madeCells (Value.agg #[.int .i64 0, .int .i64 0]).cells (N * 2)) 60))
          have ZR1 := hid (show Rds Nn (w9.drew.alloc (.cells (madeCells (Value.agg #[.int .i64 0, .int .i64 0]).cells (N * 2)) 60)) 2 (some ⟨w9.drew.heap.size, 0, none⟩) N (ints (List.replicate N [0, 0]).flatten) from zero_pairs w9.drew N 60)
          refine hK.out _ _ ⟨S1.out, V1.out, U1.out⟩ (fun hS => ?_)
          clear hK KK
          try simp only [Act.put, List.setIfInBounds_toArray, List.set_cons_zero, List.set_cons_succ]
          generalize w9.drew.heap.size = mb at ZR1 ⊢
          generalize (w9.drew.alloc (.cells (madeCells (Value.agg #[.int .i64 0, .int .i64 0]).cells (N * 2)) 60)) = t1 at K1 S1 V1 U1 ZR1 hS ⊢
          refine wpAnyH_ready (rs := [3]) (by kernel_rfl) (by simp) ?_
          refine (AllReadyH.cons rfl (fun KK hK => ?_) AllReadyH.nil)
          go_simp
          (go_at_call 30; refine (ctarget_any t _).mono ?_; rintro e t2 ⟨rfl, hb⟩)
          have HB := hid (show Below t1.heap.size t1 t2 from by first | exact hb | exact (Below.drew (Below.refl _ _)).trans hb)
          have K2 := hid (K1.out.trans (HB.out.mono K1.out.size))
          have ZR2 := hid (ZR1.out.below HB.out)
          have S2 := hid (hS.1.below HB.out hS.1.lt)
          have V2 := hid (hS.2.1.below HB.out hS.2.1.lt)
          have U2 := hid (hS.2.2.below HB.out hS.2.2.lt)
          clear hb HB hS
          refine hK.out _ _ ⟨S2.out, V2.out, U2.out⟩ (fun hS => ?_)
          clear hK KK
          try simp only [Act.put, List.setIfInBounds_toArray, List.set_cons_zero, List.set_cons_succ]
          refine wpAnyH_ready (rs := [4]) (by kernel_rfl) (by simp) ?_
          refine (AllReadyH.cons rfl (fun KK hK => ?_) AllReadyH.nil)
          go_simp
          have K3 := hid (K2.out.alloc K2.out.size (.cells #[.int .i64 t.bs, .int .i64 t.mo] 60))
          have S3 := hid (Blk.alloc hS.1 (.cells #[.int .i64 t.bs, .int .i64 t.mo] 60))
          have V3 := hid (Blk.alloc hS.2.1 (.cells #[.int .i64 t.bs, .int .i64 t.mo] 60))
          have U3 := hid (Blk.alloc hS.2.2 (.cells #[.int .i64 t.bs, .int .i64 t.mo] 60))
          have RR3 := hid (Rds.pairAt t2 t2.heap.size (.int .i64 t.bs) (.int .i64 t.mo) 60 rfl)
          have ZR3 := hid (ZR2.out.allocS (.cells #[.int .i64 t.bs, .int .i64 t.mo] 60))
          refine hK.out _ _ ⟨S3.out, V3.out, U3.out⟩ (fun hS => ?_)
          clear hK KK
          try simp only [Act.put, List.setIfInBounds_toArray, List.set_cons_zero, List.set_cons_succ]
          generalize t2.heap.size = rb at RR3 ⊢
          generalize (t2.alloc (.cells #[.int .i64 t.bs, .int .i64 t.mo] 60)) = t3 at K3 S3 V3 U3 RR3 ZR3 hS ⊢
          refine wpAnyH_ready (rs := [6]) (by kernel_rfl) (by simp) ?_
          refine (AllReadyH.cons rfl (fun KK hK => ?_) AllReadyH.nil)
          go_simp
          (go_at_call 32; refine (repeat_any [.int .i64 t.bs, .int .i64 t.mo] _ _ N _ (RR3.out.below (by first | exact Below.refl _ _ | exact Below.drew (Below.refl _ _))) (by intro u hu; simp at hu; rcases hu with rfl | rfl <;> rfl) (by omega)).mono ?_; rintro e t4 ⟨u, rfl, hu, hb⟩)
          obtain ⟨Ar, cr, rfl, _, _⟩ := own_form hu
          have HB := hid (show Below t3.heap.size t3 t4 from by first | exact hb | exact (Below.drew (Below.refl _ _)).trans hb)
          have K4 := hid (K3.out.trans (HB.out.mono K3.out.size))
          have RO4 := hid (rep_ints (Rds.own hu (S := Nn) (fun _ _ => id)))
          have ZR4 := hid (ZR3.out.below HB.out)
          have S4 := hid (hS.1.below HB.out hS.1.lt)
          have V4 := hid (hS.2.1.below HB.out hS.2.1.lt)
          have U4 := hid (hS.2.2.below HB.out hS.2.2.lt)
          clear hu hb HB hS
          refine hK.out _ _ ⟨S4.out, V4.out, U4.out⟩ (fun hS => ?_)
          clear hK KK
          try simp only [Act.put, List.setIfInBounds_toArray, List.set_cons_zero, List.set_cons_succ]
          refine wpAnyH_ready (rs := [9]) (by kernel_rfl) (by simp) ?_
          refine AllReadyH.cons rfl (fun KK hK => ?_) AllReadyH.nil
          go_simp
          (go_at_call 31; refine (wrun_any b m cp oB oM vB vM Ar (some ⟨mb, 0, none⟩) cr N N N (List.replicate N [t.bs, t.mo]) (List.replicate N [0, 0]) _ (RO4.out.below (by first | exact Below.refl _ _ | exact Below.drew (Below.refl _ _))) (ZR4.out.below (by first | exact Below.refl _ _ | exact Below.drew (Below.refl _ _))) (rep_two _ _ _) (rep_two _ _ _) (by simp) (by simp) (by omega) (by omega)).mono ?_; rintro e wz ⟨u, rfl, hu, hb⟩; have RU := hid hu; have HB := hid (show Below t4.heap.size t4 wz from by first | exact hb | exact (Below.drew (Below.refl _ _)).trans hb); have BZ := hid (B9.out.trans ((K4.out.trans (HB.out.mono K4.out.size)).mono B9.out.size)); have S99 := hid (hS.1.below HB.out hS.1.lt); have V99 := hid (hS.2.1.below HB.out hS.2.1.lt); have U99 := hid (hS.2.2.below HB.out hS.2.2.lt); clear hu hb HB hS)
          refine hK.out _ _ ⟨S99.out, V99.out, U99.out⟩ (fun hS => ?_)
          clear hK KK
          try simp only [Act.put, List.setIfInBounds_toArray, List.set_cons_zero, List.set_cons_succ]
          refine take_at (i := 10) (v := ?_) rfl rfl (by kernel_rfl) (by kernel_rfl) (by kernel_rfl) (fun _ _ _ h => h) (Or.inl ⟨by rfl, ?_⟩) hS ?_
          rotate_left
          · intro w hSw; (try dsimp only at hSw); go_simp; try with_reducible rfl
          try simp only [List.setIfInBounds_toArray, List.set_cons_zero, List.set_cons_succ]
          refine take_at (i := 11) (v := ?_) rfl rfl (by kernel_rfl) (by kernel_rfl) (by kernel_rfl) (fun _ _ _ h => h) (Or.inl ⟨by rfl, ?_⟩) hS ?_
          rotate_left
          · intro w hSw; (try dsimp only at hSw); go_simp; try with_reducible rfl
          try simp only [List.setIfInBounds_toArray, List.set_cons_zero, List.set_cons_succ]
          refine take_at (i := 12) (v := ?_) rfl rfl (by kernel_rfl) (by kernel_rfl) (by kernel_rfl) (fun _ _ _ h => h) (Or.inl ⟨by rfl, ?_⟩) hS ?_
          rotate_left
          · intro w hSw; (try dsimp only at hSw); go_simp; try with_reducible rfl
          try simp only [List.setIfInBounds_toArray, List.set_cons_zero, List.set_cons_succ]
          refine take_at (i := 13) (v := ?_) rfl rfl (by kernel_rfl) (by kernel_rfl) (by kernel_rfl) (fun _ _ _ h => h) (Or.inl ⟨by rfl, ?_⟩) hS ?_
          rotate_left
          · intro w hSw; (try dsimp only at hSw); go_simp; try with_reducible rfl
          try simp only [List.setIfInBounds_toArray, List.set_cons_zero, List.set_cons_succ]
          refine wpAnyH_done (by kernel_rfl) ?_ _
          simp only [Sure, Exit.then]
          clear hS
          go_wp2
          go_ret2
          exact path_ok rfl HC.out OK.out RS.out RU.out BZ.out
    · go_simp
      have K1 := hid (Below.drew ((Below.refl w7.heap.size w7).alloc (Nat.le_refl _) (.cells #[.int .i64 0, .int .i64 0, .int .i64 0, .int .i64 0] 63)))
      have S1 := hid (Blk.drew (Blk.alloc W7.out (.cells #[.int .i64 0, .int .i64 0, .int .i64 0, .int .i64 0] 63)))
      have V1 := hid (Blk.drew (Blk.alloc F7.out (.cells #[.int .i64 0, .int .i64 0, .int .i64 0, .int .i64 0] 63)))
      have U1 := hid (Blk.drew (Blk.alloc T7.out (.cells #[.int .i64 0, .int .i64 0, .int .i64 0, .int .i64 0] 63)))
      have Z1 := hid (Blk.drew (Blk.at_new w7 (b := w7.heap.size) (t := 63) (cs := #[.int .i64 0, .int .i64 0, .int .i64 0, .int .i64 0]) rfl))
      have G1 : Hid (w7.heap.size ≤ w7.heap.size) := hid (Nat.le_refl _)
      refine hK.out _ _ ⟨S1.out, V1.out, U1.out⟩ (fun hS => ?_)
      clear hK KK
      try simp only [Act.put, List.setIfInBounds_toArray, List.set_cons_zero, List.set_cons_succ]
      obtain ⟨zb, hzb⟩ : ∃ z, z = w7.heap.size := ⟨_, rfl⟩
      rw [← hzb] at Z1 ⊢
      have GZ : Hid (w7.heap.size ≤ zb) := hid (by omega)
      generalize (w7.alloc (.cells #[.int .i64 0, .int .i64 0, .int .i64 0, .int .i64 0] 63)).drew = t1 at K1 S1 V1 U1 Z1 hS ⊢
      clear hzb G1
      refine wpAnyH_ready (rs := [2]) (by kernel_rfl) (by simp) ?_
      refine (AllReadyH.cons rfl (fun KK hK => ?_) AllReadyH.nil)
      go_simp
      (go_at_call 30; refine (ctarget_any f _).mono ?_; rintro e t2 ⟨rfl, hb⟩)
      have HB := hid (show Below t1.heap.size t1 t2 from by first | exact hb | exact (Below.drew (Below.refl _ _)).trans hb)
      have K2 := hid (K1.out.trans (HB.out.mono K1.out.size))
      have S2 := hid (hS.1.below HB.out hS.1.lt)
      have V2 := hid (hS.2.1.below HB.out hS.2.1.lt)
      have U2 := hid (hS.2.2.below HB.out hS.2.2.lt)
      have Z2 := hid (Z1.out.below HB.out Z1.out.lt)
      clear hb HB hS
      refine hK.out _ _ ⟨S2.out, V2.out, U2.out⟩ (fun hS => ?_)
      clear hK KK
      try simp only [Act.put, List.setIfInBounds_toArray, List.set_cons_zero, List.set_cons_succ]
      refine wpAnyH_ready (rs := [3]) (by kernel_rfl) (by simp) ?_
      refine (AllReadyH.cons rfl (fun KK hK => ?_) AllReadyH.nil)
      go_simp
      (go_at_call 25; refine (wrests_any b m cp f.bs f.mo _).mono ?_; rintro e t3 ⟨oB, oM, vB, vM, er, rfl, hrs, hb⟩)
      obtain rfl := rest_er hrs HC.out (by have := fit_yes HF.out; omega) (by have := fit_yes HF.out; omega)
      have RS := hid hrs
      clear hrs
      have HB := hid (show Below t2.heap.size t2 t3 from by first | exact hb | exact (Below.drew (Below.refl _ _)).trans hb)
      have K3 := hid (K2.out.trans (HB.out.mono K2.out.size))
      have S3 := hid (hS.1.below HB.out hS.1.lt)
      have V3 := hid (hS.2.1.below HB.out hS.2.1.lt)
      have U3 := hid (hS.2.2.below HB.out hS.2.2.lt)
      have Z3 := hid (Z2.out.below HB.out Z2.out.lt)
      clear hb HB hS
      refine hK.out _ _ ⟨S3.out, V3.out, U3.out⟩ (fun hS => ?_)
      clear hK KK
      try simp only [Act.put, List.setIfInBounds_toArray, List.set_cons_zero, List.set_cons_succ]
      refine take_at (i := 4) (v := ?_) rfl rfl (by kernel_rfl) (by kernel_rfl) (by kernel_rfl) (fun _ _ _ h => h) (Or.inl ⟨by rfl, ?_⟩) hS ?_
      rotate_left
      · intro w hSw; (try dsimp only at hSw); go_simp; try with_reducible rfl
      try simp only [List.setIfInBounds_toArray, List.set_cons_zero, List.set_cons_succ]
      refine take_at (i := 5) (v := ?_) rfl rfl (by kernel_rfl) (by kernel_rfl) (by kernel_rfl) (fun _ _ _ h => h) (Or.inl ⟨by rfl, ?_⟩) hS ?_
      rotate_left
      · intro w hSw; (try dsimp only at hSw); go_simp; try with_reducible rfl
      try simp only [List.setIfInBounds_toArray, List.set_cons_zero, List.set_cons_succ]
      refine take_at (i := 6) (v := ?_) rfl rfl (by kernel_rfl) (by kernel_rfl) (by kernel_rfl) (fun _ _ _ h => h) (Or.inl ⟨by rfl, ?_⟩) hS ?_
      rotate_left
      · intro w hSw; (try dsimp only at hSw); go_simp; try with_reducible rfl
      try simp only [List.setIfInBounds_toArray, List.set_cons_zero, List.set_cons_succ]
      have NW : w.heap.size ≠ zb ∧ w.heap.size + 1 ≠ zb ∧ w.heap.size + 1 + 1 ≠ zb := by have h1 := GZ.out; have h2 := T7.out.lt; omega
      refine wpAnyH_ready (rs := [8]) (by kernel_rfl) (by simp) ?_
      refine AllReadyH.cons rfl (fun KK hK => ?_) AllReadyH.nil
      refine step_store_blk (t := 63) (e := 63) (cs0 := #[.int .i64 0, .int .i64 0, .int .i64 0, .int .i64 0]) (cs := #[.int .i64 oB, .int .i64 oM, .int .i64 vB, .int .i64 vM]) Z3.out (by kernel_rfl) rfl (by simp [Value.oneCell']) rfl rfl rfl rfl ?_
      refine hK.out _ _ ⟨Blk.rowOther hS.1 NW.1 _, Blk.rowOther hS.2.1 NW.2.1 _, Blk.rowOther hS.2.2 NW.2.2 _⟩ (fun hS => ?_)
      clear hK KK
      try simp only [Act.put, List.setIfInBounds_toArray, List.set_cons_zero, List.set_cons_succ]
      refine take_at (i := 9) (v := ?_) rfl rfl (by kernel_rfl) (by kernel_rfl) (by kernel_rfl) (fun _ _ _ h => h) (Or.inl ⟨by rfl, ?_⟩) hS ?_
      rotate_left
      · intro w hSw; (try dsimp only at hSw); go_simp; try with_reducible rfl
      try simp only [List.setIfInBounds_toArray, List.set_cons_zero, List.set_cons_succ]
      refine wpAnyH_done (by kernel_rfl) ?_ _
      simp only [Sure, Exit.then]
      have W9 := hid hS.1
      have T9 := hid hS.2.2
      have S9 := hid (Blk.row Z3.out #[.int .i64 oB, .int .i64 oM, .int .i64 vB, .int .i64 vM])
      have B9 := hid (B7.out.trans ((Below.row K3.out GZ.out #[.int .i64 oB, .int .i64 oM, .int .i64 vB, .int .i64 vM]).mono B7.out.size))
      generalize t3.setRow zb #[.int .i64 oB, .int .i64 oM, .int .i64 vB, .int .i64 vM] = w9 at W9 T9 S9 B9 hS ⊢
      clear hS
      go_upto_region 15 with fail
      refine wp_region_hand (fun w' => Blk w' w.heap.size 29 #[.int .i64 b.kp, .int .i64 b.ki, .int .i64 b.sh, .int .i64 b.lo, .int .i64 b.hi, .int .i64 b.rate, .int .i64 b.ga, .int .i64 b.la, .int .i64 b.de, .int .i64 m.kp, .int .i64 m.ki, .int .i64 m.sh, .int .i64 m.lo, .int .i64 m.hi, .int .i64 m.rate, .int .i64 m.ga, .int .i64 m.la, .int .i64 m.de, .int .i64 cp] ∧ Blk w' zb 63 #[.int .i64 oB, .int .i64 oM, .int .i64 vB, .int .i64 vM] ∧ Blk w' (w.heap.size + 1 + 1) 32 #[.string t.nm, .int .i64 t.bs, .int .i64 t.bt, .int .i64 t.mo, .int .i64 t.mt, .int .i64 t.ca, .slice t.ra t.rn t.rc, .int .i64 t.pr]) (by kernel_rfl) ?_
      simp only [List.length_cons, List.length_nil, Nat.zero_add, Nat.reduceAdd]
      have hS : Blk w9.drew w.heap.size 29 #[.int .i64 b.kp, .int .i64 b.ki, .int .i64 b.sh, .int .i64 b.lo, .int .i64 b.hi, .int .i64 b.rate, .int .i64 b.ga, .int .i64 b.la, .int .i64 b.de, .int .i64 m.kp, .int .i64 m.ki, .int .i64 m.sh, .int .i64 m.lo, .int .i64 m.hi, .int .i64 m.rate, .int .i64 m.ga, .int .i64 m.la, .int .i64 m.de, .int .i64 cp] ∧ Blk w9.drew zb 63 #[.int .i64 oB, .int .i64 oM, .int .i64 vB, .int .i64 vM] ∧ Blk w9.drew (w.heap.size + 1 + 1) 32 #[.string t.nm, .int .i64 t.bs, .int .i64 t.bt, .int .i64 t.mo, .int .i64 t.mt, .int .i64 t.ca, .slice t.ra t.rn t.rc, .int .i64 t.pr] := ⟨W9.out, S9.out, T9.out⟩
      refine take_at (i := 0) (v := .agg #[.int .i64 b.kp, .int .i64 b.ki, .int .i64 b.sh, .int .i64 b.lo, .int .i64 b.hi, .int .i64 b.rate, .int .i64 b.ga, .int .i64 b.la, .int .i64 b.de, .int .i64 m.kp, .int .i64 m.ki, .int .i64 m.sh, .int .i64 m.lo, .int .i64 m.hi, .int .i64 m.rate, .int .i64 m.ga, .int .i64 m.la, .int .i64 m.de, .int .i64 cp]) rfl rfl (by kernel_rfl) (by kernel_rfl) (by kernel_rfl) (fun _ _ _ h => h) (Or.inl ⟨by rfl, fun wi hSw => exec_loads (p := .pointer (some ⟨w.heap.size, 0, none⟩)) rfl rfl (load_blk hSw.1 Try.underlying29 rfl (by kernel_rfl))⟩) hS ?_
      try simp only [List.setIfInBounds_toArray, List.set_cons_zero, List.set_cons_succ]
      refine take_at (i := 1) (v := .agg #[.int .i64 oB, .int .i64 oM, .int .i64 vB, .int .i64 vM]) rfl rfl (by kernel_rfl) (by kernel_rfl) (by kernel_rfl) (fun _ _ _ h => h) (Or.inl ⟨by rfl, fun wi hSw => exec_loads (p := .pointer (some ⟨zb, 0, none⟩)) rfl rfl (load_blk hSw.2.1 Try.underlying63 rfl (by kernel_rfl))⟩) hS ?_
      try simp only [List.setIfInBounds_toArray, List.set_cons_zero, List.set_cons_succ]
      refine take_at (i := 2) (v := .agg #[.string t.nm, .int .i64 t.bs, .int .i64 t.bt, .int .i64 t.mo, .int .i64 t.mt, .int .i64 t.ca, .slice t.ra t.rn t.rc, .int .i64 t.pr]) rfl rfl (by kernel_rfl) (by kernel_rfl) (by kernel_rfl) (fun _ _ _ h => h) (Or.inl ⟨by rfl, fun wi hSw => exec_loads (p := .pointer (some ⟨w.heap.size + 1 + 1, 0, none⟩)) rfl rfl (load_blk hSw.2.2 Try.underlying32 rfl (by kernel_rfl))⟩) hS ?_
      try simp only [List.setIfInBounds_toArray, List.set_cons_zero, List.set_cons_succ]
      refine take_at (i := 5) (v := ?_) rfl rfl (by kernel_rfl) (by kernel_rfl) (by kernel_rfl) (fun _ _ _ h => h) (Or.inl ⟨by rfl, ?_⟩) hS ?_
      rotate_left
      · intro w hSw; (try dsimp only at hSw); go_simp; try with_reducible rfl
      try simp only [List.setIfInBounds_toArray, List.set_cons_zero, List.set_cons_succ]
      refine take_at (i := 7) (v := ?_) rfl rfl (by kernel_rfl) (by kernel_rfl) (by kernel_rfl) (fun _ _ _ h => h) (Or.inl ⟨by rfl, ?_⟩) hS ?_
      rotate_left
      · intro w hSw; (try dsimp only at hSw); go_simp; try with_reducible rfl
      try simp only [List.setIfInBounds_toArray, List.set_cons_zero, List.set_cons_succ]
      have K0 := hid (Below.drew (Below.refl w9.heap.size w9))
      refine wpAnyH_ready (rs := [3, 8]) (by kernel_rfl) (by simp) ?_
      refine (AllReadyH.cons rfl (fun KK hK => ?_) (AllReadyH.cons rfl (fun KK hK => ?_) AllReadyH.nil))
      · go_simp
        (go_at_call 30; refine (ctarget_any t _).mono ?_; rintro e t1 ⟨rfl, hb⟩)
        have HB := hid (show Below w9.drew.heap.size w9.drew t1 from by first | exact hb | exact (Below.drew (Below.refl _ _)).trans hb)
        have K1 := hid (K0.out.trans (HB.out.mono K0.out.size))
        have S1 := hid (hS.1.below HB.out hS.1.lt)
        have V1 := hid (hS.2.1.below HB.out hS.2.1.lt)
        have U1 := hid (hS.2.2.below HB.out hS.2.2.lt)
        clear hb HB hS
        refine hK.out _ _ ⟨S1.out, V1.out, U1.out⟩ (fun hS => ?_)
        clear hK KK
        try simp only [Act.put, List.setIfInBounds_toArray, List.set_cons_zero, List.set_cons_succ]
        refine wpAnyH_ready (rs := [4, 8]) (by kernel_rfl) (by simp) ?_
        refine (AllReadyH.cons rfl (fun KK hK => ?_) (AllReadyH.cons rfl (fun KK hK => ?_) AllReadyH.nil))
        · go_simp
          have K2 := hid (K1.out.alloc K1.out.size (.cells #[.int .i64 t.bs, .int .i64 t.mo] 60))
          have S2 := hid (Blk.alloc hS.1 (.cells #[.int .i64 t.bs, .int .i64 t.mo] 60))
          have V2 := hid (Blk.alloc hS.2.1 (.cells #[.int .i64 t.bs, .int .i64 t.mo] 60))
          have U2 := hid (Blk.alloc hS.2.2 (.cells #[.int .i64 t.bs, .int .i64 t.mo] 60))
          have RR2 := hid (Rds.pairAt t1 t1.heap.size (.int .i64 t.bs) (.int .i64 t.mo) 60 rfl)
          refine hK.out _ _ ⟨S2.out, V2.out, U2.out⟩ (fun hS => ?_)
          clear hK KK
          try simp only [Act.put, List.setIfInBounds_toArray, List.set_cons_zero, List.set_cons_succ]
          generalize t1.heap.size = rb at RR2 ⊢
          generalize (t1.alloc (.cells #[.int .i64 t.bs, .int .i64 t.mo] 60)) = t2 at K2 S2 V2 U2 RR2 hS ⊢
          refine wpAnyH_ready (rs := [6, 8]) (by kernel_rfl) (by simp) ?_
          refine (AllReadyH.cons rfl (fun KK hK => ?_) (AllReadyH.cons rfl (fun KK hK => ?_) AllReadyH.nil))
          · go_simp
            (go_at_call 32; refine (repeat_any [.int .i64 t.bs, .int .i64 t.mo] _ _ N _ (RR2.out.below (by first | exact Below.refl _ _ | exact Below.drew (Below.refl _ _))) (by intro u hu; simp at hu; rcases hu with rfl | rfl <;> rfl) (by omega)).mono ?_; rintro e t3 ⟨u, rfl, hu, hb⟩)
            obtain ⟨Ar, cr, rfl, _, _⟩ := own_form hu
            have HB := hid (show Below t2.heap.size t2 t3 from by first | exact hb | exact (Below.drew (Below.refl _ _)).trans hb)
            have K3 := hid (K2.out.trans (HB.out.mono K2.out.size))
            have RO3 := hid (rep_ints (Rds.own hu (S := Nn) (fun _ _ => id)))
            have S3 := hid (hS.1.below HB.out hS.1.lt)
            have V3 := hid (hS.2.1.below HB.out hS.2.1.lt)
            have U3 := hid (hS.2.2.below HB.out hS.2.2.lt)
            clear hu hb HB hS
            refine hK.out _ _ ⟨S3.out, V3.out, U3.out⟩ (fun hS => ?_)
            clear hK KK
            try simp only [Act.put, List.setIfInBounds_toArray, List.set_cons_zero, List.set_cons_succ]
            refine wpAnyH_ready (rs := [8]) (by kernel_rfl) (by simp) ?_
            refine (AllReadyH.cons rfl (fun KK hK => ?_) AllReadyH.nil)
            refine step_make Try.underlying39 infoR (n := N) (by omega) (by omega) rfl rfl rfl rfl ?_
            have K4 := hid (K3.out.alloc K3.out.size (.cells (madeCells (Value.agg #[.int .i64 0, .int .i64 0]).cells (N * 2)) 60))
            have S4 := hid (Blk.alloc hS.1 (.cells (madeCells (Value.agg #[.int .i64 0, .int .i64 0]).cells (N * 2)) 60))
            have V4 := hid (Blk.alloc hS.2.1 (.cells (madeCells (Value.agg #[.int .i64 0, .int .i64 0]).cells (N * 2)) 60))
            have U4 := hid (Blk.alloc hS.2.2 (.cells (madeCells (Value.agg #[.int .i64 0, .int .i64 0]).cells (N * 2)) 60))
            have ZR4 := hid (show Rds Nn (t3.alloc (.cells (madeCells (Value.agg #[.int .i64 0, .int .i64 0]).cells (N * 2)) 60)) 2 (some ⟨t3.heap.size, 0, none⟩) N (ints (List.replicate N [0, 0]).flatten) from zero_pairs t3 N 60)
            have RO4 := hid (RO3.out.allocS (.cells (madeCells (Value.agg #[.int .i64 0, .int .i64 0]).cells (N * 2)) 60))
            refine hK.out _ _ ⟨S4.out, V4.out, U4.out⟩ (fun hS => ?_)
            clear hK KK
            try simp only [Act.put, List.setIfInBounds_toArray, List.set_cons_zero, List.set_cons_succ]
            generalize t3.heap.size = mb at ZR4 ⊢
            generalize (t3.alloc (.cells (madeCells (Value.agg #[.int .i64 0, .int .i64 0]).cells (N * 2)) 60)) = t4 at K4 S4 V4 U4 ZR4 RO4 hS ⊢
            refine wpAnyH_ready (rs := [9]) (by kernel_rfl) (by simp) ?_
            refine AllReadyH.cons rfl (fun KK hK => ?_) AllReadyH.nil
            go_simp
            (go_at_call 31; refine (wrun_any b m cp oB oM vB vM Ar (some ⟨mb, 0, none⟩) cr N N N (List.replicate N [t.bs, t.mo]) (List.replicate N [0, 0]) _ (RO4.out.below (by first | exact Below.refl _ _ | exact Below.drew (Below.refl _ _))) (ZR4.out.below (by first | exact Below.refl _ _ | exact Below.drew (Below.refl _ _))) (rep_two _ _ _) (rep_two _ _ _) (by simp) (by simp) (by omega) (by omega)).mono ?_; rintro e wz ⟨u, rfl, hu, hb⟩; have RU := hid hu; have HB := hid (show Below t4.heap.size t4 wz from by first | exact hb | exact (Below.drew (Below.refl _ _)).trans hb); have BZ := hid (B9.out.trans ((K4.out.trans (HB.out.mono K4.out.size)).mono B9.out.size)); have S99 := hid (hS.1.below HB.out hS.1.lt); have V99 := hid (hS.2.1.below HB.out hS.2.1.lt); have U99 := hid (hS.2.2.below HB.out hS.2.2.lt); clear hu hb HB hS)
            refine hK.out _ _ ⟨S99.out, V99.out, U99.out⟩ (fun hS => ?_)
            clear hK KK
            try simp only [Act.put, List.setIfInBounds_toArray, List.set_cons_zero, List.set_cons_succ]
            refine take_at (i := 10) (v := ?_) rfl rfl (by kernel_rfl) (by kernel_rfl) (by kernel_rfl) (fun _ _ _ h => h) (Or.inl ⟨by rfl, ?_⟩) hS ?_
            rotate_left
            · intro w hSw; (try dsimp only at hSw); go_simp; try with_reducible rfl
            try simp only [List.setIfInBounds_toArray, List.set_cons_zero, List.set_cons_succ]
            refine take_at (i := 11) (v := ?_) rfl rfl (by kernel_rfl) (by kernel_rfl) (by kernel_rfl) (fun _ _ _ h => h) (Or.inl ⟨by rfl, ?_⟩) hS ?_
            rotate_left
            · intro w hSw; (try dsimp only at hSw); go_simp; try with_reducible rfl
            try simp only [List.setIfInBounds_toArray, List.set_cons_zero, List.set_cons_succ]
            refine take_at (i := 12) (v := ?_) rfl rfl (by kernel_rfl) (by kernel_rfl) (by kernel_rfl) (fun _ _ _ h => h) (Or.inl ⟨by rfl, ?_⟩) hS ?_
            rotate_left
            · intro w hSw; (try dsimp only at hSw); go_simp; try with_reducible rfl
            try simp only [List.setIfInBounds_toArray, List.set_cons_zero, List.set_cons_succ]
            refine take_at (i := 13) (v := ?_) rfl rfl (by kernel_rfl) (by kernel_rfl) (by kernel_rfl) (fun _ _ _ h => h) (Or.inl ⟨by rfl, ?_⟩) hS ?_
            rotate_left
            · intro w hSw; (try dsimp only at hSw); go_simp; try with_reducible rfl
            try simp only [List.setIfInBounds_toArray, List.set_cons_zero, List.set_cons_succ]
            refine wpAnyH_done (by kernel_rfl) ?_ _
            simp only [Sure, Exit.then]
            clear hS
            go_wp2
            go_ret2
            exact path_ok rfl HC.out OK.out RS.out RU.out BZ.out
          · refine step_make Try.underlying39 infoR (n := N) (by omega) (by omega) rfl rfl rfl rfl ?_
            have K3 := hid (K2.out.alloc K2.out.size (.cells (madeCells (Value.agg #[.int .i64 0, .int .i64 0]).cells (N * 2)) 60))
            have S3 := hid (Blk.alloc hS.1 (.cells (madeCells (Value.agg #[.int .i64 0, .int .i64 0]).cells (N * 2)) 60))
            have V3 := hid (Blk.alloc hS.2.1 (.cells (madeCells (Value.agg #[.int .i64 0, .int .i64 0]).cells (N * 2)) 60))
            have U3 := hid (Blk.alloc hS.2.2 (.cells (madeCells (Value.agg #[.int .i64 0, .int .i64 0]).cells (N * 2)) 60))
            have ZR3 := hid (show Rds Nn (t2.alloc (.cells (madeCells (Value.agg #[.int .i64 0, .int .i64 0]).cells (N * 2)) 60)) 2 (some ⟨t2.heap.size, 0, none⟩) N (ints (List.replicate N [0, 0]).flatten) from zero_pairs t2 N 60)
            have RR3 := hid (RR2.out.allocS (.cells (madeCells (Value.agg #[.int .i64 0, .int .i64 0]).cells (N * 2)) 60))
            refine hK.out _ _ ⟨S3.out, V3.out, U3.out⟩ (fun hS => ?_)
            clear hK KK
            try simp only [Act.put, List.setIfInBounds_toArray, List.set_cons_zero, List.set_cons_succ]
            generalize t2.heap.size = mb at ZR3 ⊢
            generalize (t2.alloc (.cells (madeCells (Value.agg #[.int .i64 0, .int .i64 0]).cells (N * 2)) 60)) = t3 at K3 S3 V3 U3 ZR3 RR3 hS ⊢
            refine wpAnyH_ready (rs := [6]) (by kernel_rfl) (by simp) ?_
            refine (AllReadyH.cons rfl (fun KK hK => ?_) AllReadyH.nil)
            go_simp
            (go_at_call 32; refine (repeat_any [.int .i64 t.bs, .int .i64 t.mo] _ _ N _ (RR3.out.below (by first | exact Below.refl _ _ | exact Below.drew (Below.refl _ _))) (by intro u hu; simp at hu; rcases hu with rfl | rfl <;> rfl) (by omega)).mono ?_; rintro e t4 ⟨u, rfl, hu, hb⟩)
            obtain ⟨Ar, cr, rfl, _, _⟩ := own_form hu
            have HB := hid (show Below t3.heap.size t3 t4 from by first | exact hb | exact (Below.drew (Below.refl _ _)).trans hb)
            have K4 := hid (K3.out.trans (HB.out.mono K3.out.size))
            have RO4 := hid (rep_ints (Rds.own hu (S := Nn) (fun _ _ => id)))
            have ZR4 := hid (ZR3.out.below HB.out)
            have S4 := hid (hS.1.below HB.out hS.1.lt)
            have V4 := hid (hS.2.1.below HB.out hS.2.1.lt)
            have U4 := hid (hS.2.2.below HB.out hS.2.2.lt)
            clear hu hb HB hS
            refine hK.out _ _ ⟨S4.out, V4.out, U4.out⟩ (fun hS => ?_)
            clear hK KK
            try simp only [Act.put, List.setIfInBounds_toArray, List.set_cons_zero, List.set_cons_succ]
            refine wpAnyH_ready (rs := [9]) (by kernel_rfl) (by simp) ?_
            refine AllReadyH.cons rfl (fun KK hK => ?_) AllReadyH.nil
            go_simp
            (go_at_call 31; refine (wrun_any b m cp oB oM vB vM Ar (some ⟨mb, 0, none⟩) cr N N N (List.replicate N [t.bs, t.mo]) (List.replicate N [0, 0]) _ (RO4.out.below (by first | exact Below.refl _ _ | exact Below.drew (Below.refl _ _))) (ZR4.out.below (by first | exact Below.refl _ _ | exact Below.drew (Below.refl _ _))) (rep_two _ _ _) (rep_two _ _ _) (by simp) (by simp) (by omega) (by omega)).mono ?_; rintro e wz ⟨u, rfl, hu, hb⟩; have RU := hid hu; have HB := hid (show Below t4.heap.size t4 wz from by first | exact hb | exact (Below.drew (Below.refl _ _)).trans hb); have BZ := hid (B9.out.trans ((K4.out.trans (HB.out.mono K4.out.size)).mono B9.out.size)); have S99 := hid (hS.1.below HB.out hS.1.lt); have V99 := hid (hS.2.1.below HB.out hS.2.1.lt); have U99 := hid (hS.2.2.below HB.out hS.2.2.lt); clear hu hb HB hS)
            refine hK.out _ _ ⟨S99.out, V99.out, U99.out⟩ (fun hS => ?_)
            clear hK KK
            try simp only [Act.put, List.setIfInBounds_toArray, List.set_cons_zero, List.set_cons_succ]
            refine take_at (i := 10) (v := ?_) rfl rfl (by kernel_rfl) (by kernel_rfl) (by kernel_rfl) (fun _ _ _ h => h) (Or.inl ⟨by rfl, ?_⟩) hS ?_
            rotate_left
            · intro w hSw; (try dsimp only at hSw); go_simp; try with_reducible rfl
            try simp only [List.setIfInBounds_toArray, List.set_cons_zero, List.set_cons_succ]
            refine take_at (i := 11) (v := ?_) rfl rfl (by kernel_rfl) (by kernel_rfl) (by kernel_rfl) (fun _ _ _ h => h) (Or.inl ⟨by rfl, ?_⟩) hS ?_
            rotate_left
            · intro w hSw; (try dsimp only at hSw); go_simp; try with_reducible rfl
            try simp only [List.setIfInBounds_toArray, List.set_cons_zero, List.set_cons_succ]
            refine take_at (i := 12) (v := ?_) rfl rfl (by kernel_rfl) (by kernel_rfl) (by kernel_rfl) (fun _ _ _ h => h) (Or.inl ⟨by rfl, ?_⟩) hS ?_
            rotate_left
            · intro w hSw; (try dsimp only at hSw); go_simp; try with_reducible rfl
            try simp only [List.setIfInBounds_toArray, List.set_cons_zero, List.set_cons_succ]
            refine take_at (i := 13) (v := ?_) rfl rfl (by kernel_rfl) (by kernel_rfl) (by kernel_rfl) (fun _ _ _ h => h) (Or.inl ⟨by rfl, ?_⟩) hS ?_
            rotate_left
            · intro w hSw; (try dsimp only at hSw); go_simp; try with_reducible rfl
            try simp only [List.setIfInBounds_toArray, List.set_cons_zero, List.set_cons_succ]
            refine wpAnyH_done (by kernel_rfl) ?_ _
            simp only [Sure, Exit.then]
            clear hS
            go_wp2
            go_ret2
            exact path_ok rfl HC.out OK.out RS.out RU.out BZ.out
        · refine step_make Try.underlying39 infoR (n := N) (by omega) (by omega) rfl rfl rfl rfl ?_
          have K2 := hid (K1.out.alloc K1.out.size (.cells (madeCells (Value.agg #[.int .i64 0, .int .i64 0]).cells (N * 2)) 60))
          have S2 := hid (Blk.alloc hS.1 (.cells (madeCells (Value.agg #[.int .i64 0, .int .i64 0]).cells (N * 2)) 60))
          have V2 := hid (Blk.alloc hS.2.1 (.cells (madeCells (Value.agg #[.int .i64 0, .int .i64 0]).cells (N * 2)) 60))
          have U2 := hid (Blk.alloc hS.2.2 (.cells (madeCells (Value.agg #[.int .i64 0, .int .i64 0]).cells (N * 2)) 60))
          have ZR2 := hid (show Rds Nn (t1.alloc (.cells (madeCells (Value.agg #[.int .i64 0, .int .i64 0]).cells (N * 2)) 60)) 2 (some ⟨t1.heap.size, 0, none⟩) N (ints (List.replicate N [0, 0]).flatten) from zero_pairs t1 N 60)
          refine hK.out _ _ ⟨S2.out, V2.out, U2.out⟩ (fun hS => ?_)
          clear hK KK
          try simp only [Act.put, List.setIfInBounds_toArray, List.set_cons_zero, List.set_cons_succ]
          generalize t1.heap.size = mb at ZR2 ⊢
          generalize (t1.alloc (.cells (madeCells (Value.agg #[.int .i64 0, .int .i64 0]).cells (N * 2)) 60)) = t2 at K2 S2 V2 U2 ZR2 hS ⊢
          refine wpAnyH_ready (rs := [4]) (by kernel_rfl) (by simp) ?_
          refine (AllReadyH.cons rfl (fun KK hK => ?_) AllReadyH.nil)
          go_simp
          have K3 := hid (K2.out.alloc K2.out.size (.cells #[.int .i64 t.bs, .int .i64 t.mo] 60))
          have S3 := hid (Blk.alloc hS.1 (.cells #[.int .i64 t.bs, .int .i64 t.mo] 60))
          have V3 := hid (Blk.alloc hS.2.1 (.cells #[.int .i64 t.bs, .int .i64 t.mo] 60))
          have U3 := hid (Blk.alloc hS.2.2 (.cells #[.int .i64 t.bs, .int .i64 t.mo] 60))
          have RR3 := hid (Rds.pairAt t2 t2.heap.size (.int .i64 t.bs) (.int .i64 t.mo) 60 rfl)
          have ZR3 := hid (ZR2.out.allocS (.cells #[.int .i64 t.bs, .int .i64 t.mo] 60))
          refine hK.out _ _ ⟨S3.out, V3.out, U3.out⟩ (fun hS => ?_)
          clear hK KK
          try simp only [Act.put, List.setIfInBounds_toArray, List.set_cons_zero, List.set_cons_succ]
          generalize t2.heap.size = rb at RR3 ⊢
          generalize (t2.alloc (.cells #[.int .i64 t.bs, .int .i64 t.mo] 60)) = t3 at K3 S3 V3 U3 RR3 ZR3 hS ⊢
          refine wpAnyH_ready (rs := [6]) (by kernel_rfl) (by simp) ?_
          refine (AllReadyH.cons rfl (fun KK hK => ?_) AllReadyH.nil)
          go_simp
          (go_at_call 32; refine (repeat_any [.int .i64 t.bs, .int .i64 t.mo] _ _ N _ (RR3.out.below (by first | exact Below.refl _ _ | exact Below.drew (Below.refl _ _))) (by intro u hu; simp at hu; rcases hu with rfl | rfl <;> rfl) (by omega)).mono ?_; rintro e t4 ⟨u, rfl, hu, hb⟩)
          obtain ⟨Ar, cr, rfl, _, _⟩ := own_form hu
          have HB := hid (show Below t3.heap.size t3 t4 from by first | exact hb | exact (Below.drew (Below.refl _ _)).trans hb)
          have K4 := hid (K3.out.trans (HB.out.mono K3.out.size))
          have RO4 := hid (rep_ints (Rds.own hu (S := Nn) (fun _ _ => id)))
          have ZR4 := hid (ZR3.out.below HB.out)
          have S4 := hid (hS.1.below HB.out hS.1.lt)
          have V4 := hid (hS.2.1.below HB.out hS.2.1.lt)
          have U4 := hid (hS.2.2.below HB.out hS.2.2.lt)
          clear hu hb HB hS
          refine hK.out _ _ ⟨S4.out, V4.out, U4.out⟩ (fun hS => ?_)
          clear hK KK
          try simp only [Act.put, List.setIfInBounds_toArray, List.set_cons_zero, List.set_cons_succ]
          refine wpAnyH_ready (rs := [9]) (by kernel_rfl) (by simp) ?_
          refine AllReadyH.cons rfl (fun KK hK => ?_) AllReadyH.nil
          go_simp
          (go_at_call 31; refine (wrun_any b m cp oB oM vB vM Ar (some ⟨mb, 0, none⟩) cr N N N (List.replicate N [t.bs, t.mo]) (List.replicate N [0, 0]) _ (RO4.out.below (by first | exact Below.refl _ _ | exact Below.drew (Below.refl _ _))) (ZR4.out.below (by first | exact Below.refl _ _ | exact Below.drew (Below.refl _ _))) (rep_two _ _ _) (rep_two _ _ _) (by simp) (by simp) (by omega) (by omega)).mono ?_; rintro e wz ⟨u, rfl, hu, hb⟩; have RU := hid hu; have HB := hid (show Below t4.heap.size t4 wz from by first | exact hb | exact (Below.drew (Below.refl _ _)).trans hb); have BZ := hid (B9.out.trans ((K4.out.trans (HB.out.mono K4.out.size)).mono B9.out.size)); have S99 := hid (hS.1.below HB.out hS.1.lt); have V99 := hid (hS.2.1.below HB.out hS.2.1.lt); have U99 := hid (hS.2.2.below HB.out hS.2.2.lt); clear hu hb HB hS)
          refine hK.out _ _ ⟨S99.out, V99.out, U99.out⟩ (fun hS => ?_)
          clear hK KK
          try simp only [Act.put, List.setIfInBounds_toArray, List.set_cons_zero, List.set_cons_succ]
          refine take_at (i := 10) (v := ?_) rfl rfl (by kernel_rfl) (by kernel_rfl) (by kernel_rfl) (fun _ _ _ h => h) (Or.inl ⟨by rfl, ?_⟩) hS ?_
          rotate_left
          · intro w hSw; (try dsimp only at hSw); go_simp; try with_reducible rfl
          try simp only [List.setIfInBounds_toArray, List.set_cons_zero, List.set_cons_succ]
          refine take_at (i := 11) (v := ?_) rfl rfl (by kernel_rfl) (by kernel_rfl) (by kernel_rfl) (fun _ _ _ h => h) (Or.inl ⟨by rfl, ?_⟩) hS ?_
          rotate_left
          · intro w hSw; (try dsimp only at hSw); go_simp; try with_reducible rfl
          try simp only [List.setIfInBounds_toArray, List.set_cons_zero, List.set_cons_succ]
          refine take_at (i := 12) (v := ?_) rfl rfl (by kernel_rfl) (by kernel_rfl) (by kernel_rfl) (fun _ _ _ h => h) (Or.inl ⟨by rfl, ?_⟩) hS ?_
          rotate_left
          · intro w hSw; (try dsimp only at hSw); go_simp; try with_reducible rfl
          try simp only [List.setIfInBounds_toArray, List.set_cons_zero, List.set_cons_succ]
          refine take_at (i := 13) (v := ?_) rfl rfl (by kernel_rfl) (by kernel_rfl) (by kernel_rfl) (fun _ _ _ h => h) (Or.inl ⟨by rfl, ?_⟩) hS ?_
          rotate_left
          · intro w hSw; (try dsimp only at hSw); go_simp; try with_reducible rfl
          try simp only [List.setIfInBounds_toArray, List.set_cons_zero, List.set_cons_succ]
          refine wpAnyH_done (by kernel_rfl) ?_ _
          simp only [Sure, Exit.then]
          clear hS
          go_wp2
          go_ret2
          exact path_ok rfl HC.out OK.out RS.out RU.out BZ.out
      · refine step_make Try.underlying39 infoR (n := N) (by omega) (by omega) rfl rfl rfl rfl ?_
        have K1 := hid (K0.out.alloc K0.out.size (.cells (madeCells (Value.agg #[.int .i64 0, .int .i64 0]).cells (N * 2)) 60))
        have S1 := hid (Blk.alloc hS.1 (.cells (madeCells (Value.agg #[.int .i64 0, .int .i64 0]).cells (N * 2)) 60))
        have V1 := hid (Blk.alloc hS.2.1 (.cells (madeCells (Value.agg #[.int .i64 0, .int .i64 0]).cells (N * 2)) 60))
        have U1 := hid (Blk.alloc hS.2.2 (.cells (madeCells (Value.agg #[.int .i64 0, .int .i64 0]).cells (N * 2)) 60))
        have ZR1 := hid (show Rds Nn (w9.drew.alloc (.cells (madeCells (Value.agg #[.int .i64 0, .int .i64 0]).cells (N * 2)) 60)) 2 (some ⟨w9.drew.heap.size, 0, none⟩) N (ints (List.replicate N [0, 0]).flatten) from zero_pairs w9.drew N 60)
        refine hK.out _ _ ⟨S1.out, V1.out, U1.out⟩ (fun hS => ?_)
        clear hK KK
        try simp only [Act.put, List.setIfInBounds_toArray, List.set_cons_zero, List.set_cons_succ]
        generalize w9.drew.heap.size = mb at ZR1 ⊢
        generalize (w9.drew.alloc (.cells (madeCells (Value.agg #[.int .i64 0, .int .i64 0]).cells (N * 2)) 60)) = t1 at K1 S1 V1 U1 ZR1 hS ⊢
        refine wpAnyH_ready (rs := [3]) (by kernel_rfl) (by simp) ?_
        refine (AllReadyH.cons rfl (fun KK hK => ?_) AllReadyH.nil)
        go_simp
        (go_at_call 30; refine (ctarget_any t _).mono ?_; rintro e t2 ⟨rfl, hb⟩)
        have HB := hid (show Below t1.heap.size t1 t2 from by first | exact hb | exact (Below.drew (Below.refl _ _)).trans hb)
        have K2 := hid (K1.out.trans (HB.out.mono K1.out.size))
        have ZR2 := hid (ZR1.out.below HB.out)
        have S2 := hid (hS.1.below HB.out hS.1.lt)
        have V2 := hid (hS.2.1.below HB.out hS.2.1.lt)
        have U2 := hid (hS.2.2.below HB.out hS.2.2.lt)
        clear hb HB hS
        refine hK.out _ _ ⟨S2.out, V2.out, U2.out⟩ (fun hS => ?_)
        clear hK KK
        try simp only [Act.put, List.setIfInBounds_toArray, List.set_cons_zero, List.set_cons_succ]
        refine wpAnyH_ready (rs := [4]) (by kernel_rfl) (by simp) ?_
        refine (AllReadyH.cons rfl (fun KK hK => ?_) AllReadyH.nil)
        go_simp
        have K3 := hid (K2.out.alloc K2.out.size (.cells #[.int .i64 t.bs, .int .i64 t.mo] 60))
        have S3 := hid (Blk.alloc hS.1 (.cells #[.int .i64 t.bs, .int .i64 t.mo] 60))
        have V3 := hid (Blk.alloc hS.2.1 (.cells #[.int .i64 t.bs, .int .i64 t.mo] 60))
        have U3 := hid (Blk.alloc hS.2.2 (.cells #[.int .i64 t.bs, .int .i64 t.mo] 60))
        have RR3 := hid (Rds.pairAt t2 t2.heap.size (.int .i64 t.bs) (.int .i64 t.mo) 60 rfl)
        have ZR3 := hid (ZR2.out.allocS (.cells #[.int .i64 t.bs, .int .i64 t.mo] 60))
        refine hK.out _ _ ⟨S3.out, V3.out, U3.out⟩ (fun hS => ?_)
        clear hK KK
        try simp only [Act.put, List.setIfInBounds_toArray, List.set_cons_zero, List.set_cons_succ]
        generalize t2.heap.size = rb at RR3 ⊢
        generalize (t2.alloc (.cells #[.int .i64 t.bs, .int .i64 t.mo] 60)) = t3 at K3 S3 V3 U3 RR3 ZR3 hS ⊢
        refine wpAnyH_ready (rs := [6]) (by kernel_rfl) (by simp) ?_
        refine (AllReadyH.cons rfl (fun KK hK => ?_) AllReadyH.nil)
        go_simp
        (go_at_call 32; refine (repeat_any [.int .i64 t.bs, .int .i64 t.mo] _ _ N _ (RR3.out.below (by first | exact Below.refl _ _ | exact Below.drew (Below.refl _ _))) (by intro u hu; simp at hu; rcases hu with rfl | rfl <;> rfl) (by omega)).mono ?_; rintro e t4 ⟨u, rfl, hu, hb⟩)
        obtain ⟨Ar, cr, rfl, _, _⟩ := own_form hu
        have HB := hid (show Below t3.heap.size t3 t4 from by first | exact hb | exact (Below.drew (Below.refl _ _)).trans hb)
        have K4 := hid (K3.out.trans (HB.out.mono K3.out.size))
        have RO4 := hid (rep_ints (Rds.own hu (S := Nn) (fun _ _ => id)))
        have ZR4 := hid (ZR3.out.below HB.out)
        have S4 := hid (hS.1.below HB.out hS.1.lt)
        have V4 := hid (hS.2.1.below HB.out hS.2.1.lt)
        have U4 := hid (hS.2.2.below HB.out hS.2.2.lt)
        clear hu hb HB hS
        refine hK.out _ _ ⟨S4.out, V4.out, U4.out⟩ (fun hS => ?_)
        clear hK KK
        try simp only [Act.put, List.setIfInBounds_toArray, List.set_cons_zero, List.set_cons_succ]
        refine wpAnyH_ready (rs := [9]) (by kernel_rfl) (by simp) ?_
        refine AllReadyH.cons rfl (fun KK hK => ?_) AllReadyH.nil
        go_simp
        (go_at_call 31; refine (wrun_any b m cp oB oM vB vM Ar (some ⟨mb, 0, none⟩) cr N N N (List.replicate N [t.bs, t.mo]) (List.replicate N [0, 0]) _ (RO4.out.below (by first | exact Below.refl _ _ | exact Below.drew (Below.refl _ _))) (ZR4.out.below (by first | exact Below.refl _ _ | exact Below.drew (Below.refl _ _))) (rep_two _ _ _) (rep_two _ _ _) (by simp) (by simp) (by omega) (by omega)).mono ?_; rintro e wz ⟨u, rfl, hu, hb⟩; have RU := hid hu; have HB := hid (show Below t4.heap.size t4 wz from by first | exact hb | exact (Below.drew (Below.refl _ _)).trans hb); have BZ := hid (B9.out.trans ((K4.out.trans (HB.out.mono K4.out.size)).mono B9.out.size)); have S99 := hid (hS.1.below HB.out hS.1.lt); have V99 := hid (hS.2.1.below HB.out hS.2.1.lt); have U99 := hid (hS.2.2.below HB.out hS.2.2.lt); clear hu hb HB hS)
        refine hK.out _ _ ⟨S99.out, V99.out, U99.out⟩ (fun hS => ?_)
        clear hK KK
        try simp only [Act.put, List.setIfInBounds_toArray, List.set_cons_zero, List.set_cons_succ]
        refine take_at (i := 10) (v := ?_) rfl rfl (by kernel_rfl) (by kernel_rfl) (by kernel_rfl) (fun _ _ _ h => h) (Or.inl ⟨by rfl, ?_⟩) hS ?_
        rotate_left
        · intro w hSw; (try dsimp only at hSw); go_simp; try with_reducible rfl
        try simp only [List.setIfInBounds_toArray, List.set_cons_zero, List.set_cons_succ]
        refine take_at (i := 11) (v := ?_) rfl rfl (by kernel_rfl) (by kernel_rfl) (by kernel_rfl) (fun _ _ _ h => h) (Or.inl ⟨by rfl, ?_⟩) hS ?_
        rotate_left
        · intro w hSw; (try dsimp only at hSw); go_simp; try with_reducible rfl
        try simp only [List.setIfInBounds_toArray, List.set_cons_zero, List.set_cons_succ]
        refine take_at (i := 12) (v := ?_) rfl rfl (by kernel_rfl) (by kernel_rfl) (by kernel_rfl) (fun _ _ _ h => h) (Or.inl ⟨by rfl, ?_⟩) hS ?_
        rotate_left
        · intro w hSw; (try dsimp only at hSw); go_simp; try with_reducible rfl
        try simp only [List.setIfInBounds_toArray, List.set_cons_zero, List.set_cons_succ]
        refine take_at (i := 13) (v := ?_) rfl rfl (by kernel_rfl) (by kernel_rfl) (by kernel_rfl) (fun _ _ _ h => h) (Or.inl ⟨by rfl, ?_⟩) hS ?_
        rotate_left
        · intro w hSw; (try dsimp only at hSw); go_simp; try with_reducible rfl
        try simp only [List.setIfInBounds_toArray, List.set_cons_zero, List.set_cons_succ]
        refine wpAnyH_done (by kernel_rfl) ?_ _
        simp only [Sure, Exit.then]
        clear hS
        go_wp2
        go_ret2
        exact path_ok rfl HC.out OK.out RS.out RU.out BZ.out
end Go.Proofs.Ytddphdkhaaolmaa
