/- ChangeRules: for every input the law returns true. No condition. -/
import Derived.Test.YtddphdkhaaolmaaCShort
import Derived.Test.YtddphdkhaaolmaaCRulesPlain
namespace Go.Proofs.Ytddphdkhaaolmaa
open Go.RowKit

set_option linter.unusedSimpArgs false in
set_option maxRecDepth 100000 in
set_option maxHeartbeats 16000000 in
theorem changeRules_in (b m : CP) (cp : Int) (f t : GR) (H M S : Int) (a : Int) (ha : 0 ≤ a ∧ a ≤ 255) (w : World) (hn1 : f.rn ≤ maxLen ∧ f.nm.size ≤ maxLen) (hn2 : t.rn ≤ maxLen ∧ t.nm.size ≤ maxLen) : Calls Try.prog 7 #[.agg #[.int .i64 b.kp, .int .i64 b.ki, .int .i64 b.sh, .int .i64 b.lo, .int .i64 b.hi, .int .i64 b.rate, .int .i64 b.ga, .int .i64 b.la, .int .i64 b.de, .int .i64 m.kp, .int .i64 m.ki, .int .i64 m.sh, .int .i64 m.lo, .int .i64 m.hi, .int .i64 m.rate, .int .i64 m.ga, .int .i64 m.la, .int .i64 m.de, .int .i64 cp], .agg #[.string f.nm, .int .i64 f.bs, .int .i64 f.bt, .int .i64 f.mo, .int .i64 f.mt, .int .i64 f.ca, .slice f.ra f.rn f.rc, .int .i64 f.pr, .string t.nm, .int .i64 t.bs, .int .i64 t.bt, .int .i64 t.mo, .int .i64 t.mt, .int .i64 t.ca, .slice t.ra t.rn t.rc, .int .i64 t.pr, .int .i64 H, .int .i64 M, .int .i64 S], .int .u8 a] w fun e w' => e = .returned (.bool true) ∧ Below w.heap.size w w' := by
  have W0 := hid (Blk.alloc (Blk.at_new w (b := w.heap.size) (t := 29) (cs := #[.int .i64 b.kp, .int .i64 b.ki, .int .i64 b.sh, .int .i64 b.lo, .int .i64 b.hi, .int .i64 b.rate, .int .i64 b.ga, .int .i64 b.la, .int .i64 b.de, .int .i64 m.kp, .int .i64 m.ki, .int .i64 m.sh, .int .i64 m.lo, .int .i64 m.hi, .int .i64 m.rate, .int .i64 m.ga, .int .i64 m.la, .int .i64 m.de, .int .i64 cp]) rfl) (.cells #[.string f.nm, .int .i64 f.bs, .int .i64 f.bt, .int .i64 f.mo, .int .i64 f.mt, .int .i64 f.ca, .slice f.ra f.rn f.rc, .int .i64 f.pr, .string t.nm, .int .i64 t.bs, .int .i64 t.bt, .int .i64 t.mo, .int .i64 t.mt, .int .i64 t.ca, .slice t.ra t.rn t.rc, .int .i64 t.pr, .int .i64 H, .int .i64 M, .int .i64 S] 36))
  have T0 := hid (Blk.at_new (w.alloc (.cells #[.int .i64 b.kp, .int .i64 b.ki, .int .i64 b.sh, .int .i64 b.lo, .int .i64 b.hi, .int .i64 b.rate, .int .i64 b.ga, .int .i64 b.la, .int .i64 b.de, .int .i64 m.kp, .int .i64 m.ki, .int .i64 m.sh, .int .i64 m.lo, .int .i64 m.hi, .int .i64 m.rate, .int .i64 m.ga, .int .i64 m.la, .int .i64 m.de, .int .i64 cp] 29)) (b := w.heap.size + 1) (t := 36) (cs := #[.string f.nm, .int .i64 f.bs, .int .i64 f.bt, .int .i64 f.mo, .int .i64 f.mt, .int .i64 f.ca, .slice f.ra f.rn f.rc, .int .i64 f.pr, .string t.nm, .int .i64 t.bs, .int .i64 t.bt, .int .i64 t.mo, .int .i64 t.mt, .int .i64 t.ca, .slice t.ra t.rn t.rc, .int .i64 t.pr, .int .i64 H, .int .i64 M, .int .i64 S]) (by simp))
  have B0 := hid (Below.alloc (Below.alloc (Below.refl w.heap.size w) (Nat.le_refl _) (.cells #[.int .i64 b.kp, .int .i64 b.ki, .int .i64 b.sh, .int .i64 b.lo, .int .i64 b.hi, .int .i64 b.rate, .int .i64 b.ga, .int .i64 b.la, .int .i64 b.de, .int .i64 m.kp, .int .i64 m.ki, .int .i64 m.sh, .int .i64 m.lo, .int .i64 m.hi, .int .i64 m.rate, .int .i64 m.ga, .int .i64 m.la, .int .i64 m.de, .int .i64 cp] 29)) (by simp <;> omega) (.cells #[.string f.nm, .int .i64 f.bs, .int .i64 f.bt, .int .i64 f.mo, .int .i64 f.mt, .int .i64 f.ca, .slice f.ra f.rn f.rc, .int .i64 f.pr, .string t.nm, .int .i64 t.bs, .int .i64 t.bt, .int .i64 t.mo, .int .i64 t.mt, .int .i64 t.ca, .slice t.ra t.rn t.rc, .int .i64 t.pr, .int .i64 H, .int .i64 M, .int .i64 S] 36))
  go_enter Try.func7, Try.ntmps7
  go_wp2_with (first | (refine wpList_load_blk2 (t := 29) rfl rfl rfl Try.underlying29 rfl (by kernel_rfl) W0.out ?_) | (refine wpList_load_blk2 (t := 36) rfl rfl rfl Try.underlying36 rfl (by kernel_rfl) T0.out ?_) | (refine wpList_load_part (l := #[.string f.nm, .int .i64 f.bs, .int .i64 f.bt, .int .i64 f.mo, .int .i64 f.mt, .int .i64 f.ca, .slice f.ra f.rn f.rc, .int .i64 f.pr]) (o := 0) T0.out (by intro j v hj; match j, hj with | 0, hj => (simpa using hj) | 1, hj => (simpa using hj) | 2, hj => (simpa using hj) | 3, hj => (simpa using hj) | 4, hj => (simpa using hj) | 5, hj => (simpa using hj) | 6, hj => (simpa using hj) | 7, hj => (simpa using hj) | j + 8, hj => simp at hj) Try.underlying32 rfl (by kernel_rfl) rfl rfl rfl ?_) | (refine wpList_load_part (l := #[.string t.nm, .int .i64 t.bs, .int .i64 t.bt, .int .i64 t.mo, .int .i64 t.mt, .int .i64 t.ca, .slice t.ra t.rn t.rc, .int .i64 t.pr]) (o := 8) T0.out (by intro j v hj; match j, hj with | 0, hj => (simpa using hj) | 1, hj => (simpa using hj) | 2, hj => (simpa using hj) | 3, hj => (simpa using hj) | 4, hj => (simpa using hj) | 5, hj => (simpa using hj) | 6, hj => (simpa using hj) | 7, hj => (simpa using hj) | j + 8, hj => simp at hj) Try.underlying32 rfl (by kernel_rfl) rfl rfl rfl ?_) | (refine wpList_load_part (l := #[.int .i64 H, .int .i64 M, .int .i64 S]) (o := 16) T0.out (by intro j v hj; match j, hj with | 0, hj => (simpa using hj) | 1, hj => (simpa using hj) | 2, hj => (simpa using hj) | j + 3, hj => simp at hj) Try.underlying34 rfl (by kernel_rfl) rfl rfl rfl ?_))
  refine (short_any f t H M S _ hn1 hn2).mono ?_
  rintro e w1 ⟨rfl, hb⟩
  have B1 := hid (B0.out.trans (hb.mono B0.out.size))
  have W1 := hid (W0.out.below hb W0.out.lt)
  have T1 := hid (T0.out.below hb T0.out.lt)
  clear hb
  obtain ⟨sh, hsh⟩ : ∃ sh, shortB f t = sh := ⟨_, rfl⟩
  rw [hsh]
  clear hsh
  cases sh with
  | false =>
    go_wp2_with fail
    refine (awake_any _).mono ?_
    rintro e wz ⟨rfl, hb⟩
    go_wp2
    go_ret
    exact ⟨rfl, B1.out.trans (hb.mono B1.out.size)⟩
  | true =>
  clear W0 T0 B0
  go_wp2_with (first | (refine wpList_load_blk2 (t := 29) rfl rfl rfl Try.underlying29 rfl (by kernel_rfl) W1.out ?_) | (refine wpList_load_blk2 (t := 36) rfl rfl rfl Try.underlying36 rfl (by kernel_rfl) T1.out ?_) | (refine wpList_load_part (l := #[.string f.nm, .int .i64 f.bs, .int .i64 f.bt, .int .i64 f.mo, .int .i64 f.mt, .int .i64 f.ca, .slice f.ra f.rn f.rc, .int .i64 f.pr]) (o := 0) T1.out (by intro j v hj; match j, hj with | 0, hj => (simpa using hj) | 1, hj => (simpa using hj) | 2, hj => (simpa using hj) | 3, hj => (simpa using hj) | 4, hj => (simpa using hj) | 5, hj => (simpa using hj) | 6, hj => (simpa using hj) | 7, hj => (simpa using hj) | j + 8, hj => simp at hj) Try.underlying32 rfl (by kernel_rfl) rfl rfl rfl ?_) | (refine wpList_load_part (l := #[.string t.nm, .int .i64 t.bs, .int .i64 t.bt, .int .i64 t.mo, .int .i64 t.mt, .int .i64 t.ca, .slice t.ra t.rn t.rc, .int .i64 t.pr]) (o := 8) T1.out (by intro j v hj; match j, hj with | 0, hj => (simpa using hj) | 1, hj => (simpa using hj) | 2, hj => (simpa using hj) | 3, hj => (simpa using hj) | 4, hj => (simpa using hj) | 5, hj => (simpa using hj) | 6, hj => (simpa using hj) | 7, hj => (simpa using hj) | j + 8, hj => simp at hj) Try.underlying32 rfl (by kernel_rfl) rfl rfl rfl ?_) | (refine wpList_load_part (l := #[.int .i64 H, .int .i64 M, .int .i64 S]) (o := 16) T1.out (by intro j v hj; match j, hj with | 0, hj => (simpa using hj) | 1, hj => (simpa using hj) | 2, hj => (simpa using hj) | j + 3, hj => simp at hj) Try.underlying34 rfl (by kernel_rfl) rfl rfl rfl ?_))
  refine (steps_any b m cp f t H M S _).mono ?_
  rintro e w2 ⟨v, er, rfl, hs, _, hb⟩
  have B2 := hid (B1.out.trans (hb.mono B1.out.size))
  have W2 := hid (W1.out.below hb W1.out.lt)
  have T2 := hid (T1.out.below hb T1.out.lt)
  have SS := hid hs
  clear hb hs W1 T1
  by_cases he : er = 0
  rotate_left
  · obtain rfl := ss_zero SS.out he
    have hz2 : (er != 0) = true := by simpa using he
    clear he SS
    go_wp2_with fail
    refine (awake_any _).mono ?_
    rintro e wz ⟨rfl, hb⟩
    go_wp2
    go_ret
    exact ⟨rfl, B2.out.trans (hb.mono B2.out.size)⟩
  subst he
  have l2 := T2.out.lt
  go_upto_region 6 with fail
  go_cut [9, 10] (fun v9 v10 wx => ∃ g1 g2 : Nat, v9 = .pointer (some ⟨g1, 0, none⟩) ∧ v10 = .pointer (some ⟨g2, 0, none⟩) ∧ g1 ≠ g2 ∧ w2.heap.size ≤ g1 ∧ w2.heap.size ≤ g2 ∧ Blk wx g1 34 #[.int .i64 H, .int .i64 M, .int .i64 S] ∧ Blk wx g2 34 #[.int .i64 H, .int .i64 M, .int .i64 S] ∧ Below w2.heap.size w2 wx)
  case first =>
    refine wp_region_hand (fun w' => Blk w' (w.heap.size + 1) 36 #[.string f.nm, .int .i64 f.bs, .int .i64 f.bt, .int .i64 f.mo, .int .i64 f.mt, .int .i64 f.ca, .slice f.ra f.rn f.rc, .int .i64 f.pr, .string t.nm, .int .i64 t.bs, .int .i64 t.bt, .int .i64 t.mo, .int .i64 t.mt, .int .i64 t.ca, .slice t.ra t.rn t.rc, .int .i64 t.pr, .int .i64 H, .int .i64 M, .int .i64 S]) (by kernel_rfl) ?_
    simp only [List.length_cons, List.length_nil, Nat.zero_add, Nat.reduceAdd]
    have hS : Blk w2.drew (w.heap.size + 1) 36 #[.string f.nm, .int .i64 f.bs, .int .i64 f.bt, .int .i64 f.mo, .int .i64 f.mt, .int .i64 f.ca, .slice f.ra f.rn f.rc, .int .i64 f.pr, .string t.nm, .int .i64 t.bs, .int .i64 t.bt, .int .i64 t.mo, .int .i64 t.mt, .int .i64 t.ca, .slice t.ra t.rn t.rc, .int .i64 t.pr, .int .i64 H, .int .i64 M, .int .i64 S] := Blk.drew T2.out
    refine take_at (i := 0) (v := ?_) rfl rfl (by kernel_rfl) (by kernel_rfl) (by kernel_rfl) (fun _ _ _ h => h) (Or.inl ⟨by rfl, ?_⟩) hS ?_
    rotate_left
    · intro w hSw; (try dsimp only at hSw); go_simp; try with_reducible rfl
    try simp only [List.setIfInBounds_toArray, List.set_cons_zero, List.set_cons_succ]
    refine take_at (i := 1) (v := .agg #[.int .i64 H, .int .i64 M, .int .i64 S]) rfl rfl (by kernel_rfl) (by kernel_rfl) (by kernel_rfl) (fun _ _ _ h => h) (Or.inl ⟨by rfl, fun wi hSw => exec_loads (p := .pointer (some ⟨w.heap.size + 1, 16, none⟩)) rfl rfl (load_part (l := #[.int .i64 H, .int .i64 M, .int .i64 S]) hSw (by intro j v hj; match j, hj with | 0, hj => (simpa using hj) | 1, hj => (simpa using hj) | 2, hj => (simpa using hj) | j + 3, hj => simp at hj) Try.underlying34 rfl (by kernel_rfl))⟩) hS ?_
    try simp only [List.setIfInBounds_toArray, List.set_cons_zero, List.set_cons_succ]
    refine take_at (i := 2) (v := ?_) rfl rfl (by kernel_rfl) (by kernel_rfl) (by kernel_rfl) (fun _ _ _ h => h) (Or.inl ⟨by rfl, ?_⟩) hS ?_
    rotate_left
    · intro w hSw; (try dsimp only at hSw); go_simp; try with_reducible rfl
    try simp only [List.setIfInBounds_toArray, List.set_cons_zero, List.set_cons_succ]
    refine take_at (i := 3) (v := .agg #[.int .i64 H, .int .i64 M, .int .i64 S]) rfl rfl (by kernel_rfl) (by kernel_rfl) (by kernel_rfl) (fun _ _ _ h => h) (Or.inl ⟨by rfl, fun wi hSw => exec_loads (p := .pointer (some ⟨w.heap.size + 1, 16, none⟩)) rfl rfl (load_part (l := #[.int .i64 H, .int .i64 M, .int .i64 S]) hSw (by intro j v hj; match j, hj with | 0, hj => (simpa using hj) | 1, hj => (simpa using hj) | 2, hj => (simpa using hj) | j + 3, hj => simp at hj) Try.underlying34 rfl (by kernel_rfl))⟩) hS ?_
    try simp only [List.setIfInBounds_toArray, List.set_cons_zero, List.set_cons_succ]
    refine wpAnyH_ready (rs := [4, 5]) (by kernel_rfl) (by simp) ?_
    refine AllReadyH.cons rfl (fun KK hK => ?_) (AllReadyH.cons rfl (fun KK hK => ?_) AllReadyH.nil)
    · go_simp
      refine hK.out _ _ (by repeat (first | with_reducible exact T2.out | with_reducible refine Blk.drew ?_ | with_reducible refine Blk.alloc ?_ _ | (with_reducible refine Blk.rowOther ?_ ?_ _; rotate_left; · (first | (simp; done) | (simp; omega) | omega)))) (fun hS => ?_)
      clear hK KK
      try simp only [Act.put, List.setIfInBounds_toArray, List.set_cons_zero, List.set_cons_succ]
      refine wpAnyH_ready (rs := [5]) (by kernel_rfl) (by simp) ?_
      refine AllReadyH.cons rfl (fun KK hK => ?_) AllReadyH.nil
      go_simp
      refine hK.out _ _ (by repeat (first | with_reducible exact T2.out | with_reducible refine Blk.drew ?_ | with_reducible refine Blk.alloc ?_ _ | (with_reducible refine Blk.rowOther ?_ ?_ _; rotate_left; · (first | (simp; done) | (simp; omega) | omega)))) (fun hS => ?_)
      clear hK KK
      try simp only [Act.put, List.setIfInBounds_toArray, List.set_cons_zero, List.set_cons_succ]
      refine wpAnyH_ready (rs := [6]) (by kernel_rfl) (by simp) ?_
      refine AllReadyH.cons rfl (fun KK hK => ?_) AllReadyH.nil
      refine step_store_blk (b := w2.heap.size) (t := 34) (e := 34) (cs0 := #[.int .i64 0, .int .i64 0, .int .i64 0]) (cs := #[.int .i64 H, .int .i64 M, .int .i64 S]) (by repeat (first | (with_reducible refine Blk.at_new _ ?_; (simp; done)) | with_reducible refine Blk.drew ?_ | with_reducible refine Blk.alloc ?_ _)) (by kernel_rfl) rfl (by simp [Value.oneCell']) rfl rfl rfl rfl ?_
      refine hK.out _ _ (by repeat (first | with_reducible exact T2.out | with_reducible refine Blk.drew ?_ | with_reducible refine Blk.alloc ?_ _ | (with_reducible refine Blk.rowOther ?_ ?_ _; rotate_left; · (first | (simp; done) | (simp; omega) | omega)))) (fun hS => ?_)
      clear hK KK
      try simp only [Act.put, List.setIfInBounds_toArray, List.set_cons_zero, List.set_cons_succ]
      refine wpAnyH_ready (rs := [7]) (by kernel_rfl) (by simp) ?_
      refine AllReadyH.cons rfl (fun KK hK => ?_) AllReadyH.nil
      refine step_store_blk (b := w2.heap.size + 1) (t := 34) (e := 34) (cs0 := #[.int .i64 0, .int .i64 0, .int .i64 0]) (cs := #[.int .i64 H, .int .i64 M, .int .i64 S]) (by repeat (first | (with_reducible refine Blk.at_new _ ?_; (simp; done)) | with_reducible refine Blk.drew ?_ | with_reducible refine Blk.alloc ?_ _ | (with_reducible refine Blk.rowOther ?_ ?_ _; rotate_left; · (first | (simp; done) | (simp; omega) | omega)))) (by kernel_rfl) rfl (by simp [Value.oneCell']) rfl rfl rfl rfl ?_
      refine hK.out _ _ (by repeat (first | with_reducible exact T2.out | with_reducible refine Blk.drew ?_ | with_reducible refine Blk.alloc ?_ _ | (with_reducible refine Blk.rowOther ?_ ?_ _; rotate_left; · (first | (simp; done) | (simp; omega) | omega)))) (fun hS => ?_)
      clear hK KK
      try simp only [Act.put, List.setIfInBounds_toArray, List.set_cons_zero, List.set_cons_succ]
      refine wpAnyH_done (by kernel_rfl) ?_ _
      simp only [Sure, Exit.then]
      clear hS
      go_wp2_with fail
      go_meet
      exact ⟨w2.heap.size, w2.heap.size + 1, rfl, rfl, by omega, by omega, by omega, (by repeat (first | (with_reducible refine Blk.at_new _ ?_; (simp; done)) | with_reducible refine Blk.row (cs0 := #[.int .i64 0, .int .i64 0, .int .i64 0]) ?_ _ | (with_reducible refine Blk.rowOther ?_ ?_ _; rotate_left; · (first | (simp; done) | (simp; omega) | omega)) | with_reducible refine Blk.drew ?_ | with_reducible refine Blk.alloc ?_ _)), (by repeat (first | (with_reducible refine Blk.at_new _ ?_; (simp; done)) | with_reducible refine Blk.row (cs0 := #[.int .i64 0, .int .i64 0, .int .i64 0]) ?_ _ | (with_reducible refine Blk.rowOther ?_ ?_ _; rotate_left; · (first | (simp; done) | (simp; omega) | omega)) | with_reducible refine Blk.drew ?_ | with_reducible refine Blk.alloc ?_ _)), (by repeat (first | with_reducible exact Below.refl _ _ | (with_reducible refine Below.row ?_ ?_ _; rotate_left; · (first | (simp; done) | (simp; omega) | omega)) | with_reducible refine Below.drew ?_ | (with_reducible refine Below.alloc ?_ ?_ _; rotate_left; · (first | (simp; done) | (simp; omega) | omega))))⟩
    · go_simp
      refine hK.out _ _ (by repeat (first | with_reducible exact T2.out | with_reducible refine Blk.drew ?_ | with_reducible refine Blk.alloc ?_ _ | (with_reducible refine Blk.rowOther ?_ ?_ _; rotate_left; · (first | (simp; done) | (simp; omega) | omega)))) (fun hS => ?_)
      clear hK KK
      try simp only [Act.put, List.setIfInBounds_toArray, List.set_cons_zero, List.set_cons_succ]
      refine wpAnyH_ready (rs := [4]) (by kernel_rfl) (by simp) ?_
      refine AllReadyH.cons rfl (fun KK hK => ?_) AllReadyH.nil
      go_simp
      refine hK.out _ _ (by repeat (first | with_reducible exact T2.out | with_reducible refine Blk.drew ?_ | with_reducible refine Blk.alloc ?_ _ | (with_reducible refine Blk.rowOther ?_ ?_ _; rotate_left; · (first | (simp; done) | (simp; omega) | omega)))) (fun hS => ?_)
      clear hK KK
      try simp only [Act.put, List.setIfInBounds_toArray, List.set_cons_zero, List.set_cons_succ]
      refine wpAnyH_ready (rs := [6]) (by kernel_rfl) (by simp) ?_
      refine AllReadyH.cons rfl (fun KK hK => ?_) AllReadyH.nil
      refine step_store_blk (b := w2.heap.size + 1) (t := 34) (e := 34) (cs0 := #[.int .i64 0, .int .i64 0, .int .i64 0]) (cs := #[.int .i64 H, .int .i64 M, .int .i64 S]) (by repeat (first | (with_reducible refine Blk.at_new _ ?_; (simp; done)) | with_reducible refine Blk.drew ?_ | with_reducible refine Blk.alloc ?_ _)) (by kernel_rfl) rfl (by simp [Value.oneCell']) rfl rfl rfl rfl ?_
      refine hK.out _ _ (by repeat (first | with_reducible exact T2.out | with_reducible refine Blk.drew ?_ | with_reducible refine Blk.alloc ?_ _ | (with_reducible refine Blk.rowOther ?_ ?_ _; rotate_left; · (first | (simp; done) | (simp; omega) | omega)))) (fun hS => ?_)
      clear hK KK
      try simp only [Act.put, List.setIfInBounds_toArray, List.set_cons_zero, List.set_cons_succ]
      refine wpAnyH_ready (rs := [7]) (by kernel_rfl) (by simp) ?_
      refine AllReadyH.cons rfl (fun KK hK => ?_) AllReadyH.nil
      refine step_store_blk (b := w2.heap.size) (t := 34) (e := 34) (cs0 := #[.int .i64 0, .int .i64 0, .int .i64 0]) (cs := #[.int .i64 H, .int .i64 M, .int .i64 S]) (by repeat (first | (with_reducible refine Blk.at_new _ ?_; (simp; done)) | with_reducible refine Blk.drew ?_ | with_reducible refine Blk.alloc ?_ _ | (with_reducible refine Blk.rowOther ?_ ?_ _; rotate_left; · (first | (simp; done) | (simp; omega) | omega)))) (by kernel_rfl) rfl (by simp [Value.oneCell']) rfl rfl rfl rfl ?_
      refine hK.out _ _ (by repeat (first | with_reducible exact T2.out | with_reducible refine Blk.drew ?_ | with_reducible refine Blk.alloc ?_ _ | (with_reducible refine Blk.rowOther ?_ ?_ _; rotate_left; · (first | (simp; done) | (simp; omega) | omega)))) (fun hS => ?_)
      clear hK KK
      try simp only [Act.put, List.setIfInBounds_toArray, List.set_cons_zero, List.set_cons_succ]
      refine wpAnyH_done (by kernel_rfl) ?_ _
      simp only [Sure, Exit.then]
      clear hS
      go_wp2_with fail
      go_meet
      exact ⟨w2.heap.size + 1, w2.heap.size, rfl, rfl, by omega, by omega, by omega, (by repeat (first | (with_reducible refine Blk.at_new _ ?_; (simp; done)) | with_reducible refine Blk.row (cs0 := #[.int .i64 0, .int .i64 0, .int .i64 0]) ?_ _ | (with_reducible refine Blk.rowOther ?_ ?_ _; rotate_left; · (first | (simp; done) | (simp; omega) | omega)) | with_reducible refine Blk.drew ?_ | with_reducible refine Blk.alloc ?_ _)), (by repeat (first | (with_reducible refine Blk.at_new _ ?_; (simp; done)) | with_reducible refine Blk.row (cs0 := #[.int .i64 0, .int .i64 0, .int .i64 0]) ?_ _ | (with_reducible refine Blk.rowOther ?_ ?_ _; rotate_left; · (first | (simp; done) | (simp; omega) | omega)) | with_reducible refine Blk.drew ?_ | with_reducible refine Blk.alloc ?_ _)), (by repeat (first | with_reducible exact Below.refl _ _ | (with_reducible refine Below.row ?_ ?_ _; rotate_left; · (first | (simp; done) | (simp; omega) | omega)) | with_reducible refine Below.drew ?_ | (with_reducible refine Below.alloc ?_ ?_ _; rotate_left; · (first | (simp; done) | (simp; omega) | omega))))⟩
  case rest =>
    obtain ⟨g1, g2, rfl, rfl, hne, hg1, hg2, hC1, hC2, hb⟩ := hcut
    have B3 := hid (B2.out.trans (hb.mono B2.out.size))
    have W3 := hid (W2.out.below hb W2.out.lt)
    have T3 := hid (T2.out.below hb T2.out.lt)
    clear hb
    have C3 := hid hC1
    have D3 := hid hC2
    clear hC1 hC2
    obtain ⟨r1, r2, r3, r4, r5, r6⟩ := ru_ok (ss_ru SS.out)
    obtain ⟨p, hp⟩ : ∃ p, min 512 (H + a) = p := ⟨_, rfl⟩
    obtain ⟨q, hq⟩ : ∃ q, min 512 (M + a) = q := ⟨_, rfl⟩
    have wa : IntKind.i64.wrap a = a := IntWalk.i64_in _ (by omega)
    have wh : IntKind.i64.wrap (H + a) = H + a := IntWalk.i64_in _ (by omega)
    have wm : IntKind.i64.wrap (M + a) = M + a := IntWalk.i64_in _ (by omega)
    have g1l := C3.out.lt
    have g2l := D3.out.lt
    have cC := C3.out.cell
    have fC := C3.out.frozen
    have cD := (D3.out.other (a := ⟨g1, 0, none⟩) (show g2 ≠ g1 from fun e => hne e.symm) (.int .i64 p)).cell
    have fD := (D3.out.other (a := ⟨g1, 0, none⟩) (show g2 ≠ g1 from fun e => hne e.symm) (.int .i64 p)).frozen
    go_upto_region 9 with fail
    clear cC fC cD fD wa wh wm
    have C5 := hid (show Blk ((wc.setCell ⟨g1, 0, none⟩ (.int .i64 p)).setCell ⟨g2, 1, none⟩ (.int .i64 q)) g1 34 #[.int .i64 p, .int .i64 M, .int .i64 S] from (C3.out.set 0 (.int .i64 p)).other (a := ⟨g2, 1, none⟩) (show g1 ≠ g2 from hne) (.int .i64 q))
    have D5 := hid (show Blk ((wc.setCell ⟨g1, 0, none⟩ (.int .i64 p)).setCell ⟨g2, 1, none⟩ (.int .i64 q)) g2 34 #[.int .i64 H, .int .i64 q, .int .i64 S] from (D3.out.other (a := ⟨g1, 0, none⟩) (show g2 ≠ g1 from fun e => hne e.symm) (.int .i64 p)).set 1 (.int .i64 q))
    have W5 := hid ((W3.out.other (a := ⟨g1, 0, none⟩) (show w.heap.size ≠ g1 by omega) (.int .i64 p)).other (a := ⟨g2, 1, none⟩) (show w.heap.size ≠ g2 by omega) (.int .i64 q))
    have T5 := hid ((T3.out.other (a := ⟨g1, 0, none⟩) (show w.heap.size + 1 ≠ g1 by omega) (.int .i64 p)).other (a := ⟨g2, 1, none⟩) (show w.heap.size + 1 ≠ g2 by omega) (.int .i64 q))
    have B5 := hid ((((Chg.refl (fun g => g = g1 ∨ g = g2) wc).setCell (a := ⟨g1, 0, none⟩) (.inl (.inl rfl)) (.int .i64 p)).setCell (a := ⟨g2, 1, none⟩) (.inl (.inr rfl)) (.int .i64 q)).then_below B3.out (fun b hb e => by have := e; omega) B3.out.size)
    clear W2 T2 B2 W3 T3 B3 C3 D3
    generalize ((wc.setCell ⟨g1, 0, none⟩ (.int .i64 p)).setCell ⟨g2, 1, none⟩ (.int .i64 q)) = w5 at *
    go_wp2_with (first | (refine wpList_load_blk2 (t := 29) rfl rfl rfl Try.underlying29 rfl (by kernel_rfl) W5.out ?_) | (refine wpList_load_blk2 (t := 36) rfl rfl rfl Try.underlying36 rfl (by kernel_rfl) T5.out ?_) | (refine wpList_load_part (l := #[.string f.nm, .int .i64 f.bs, .int .i64 f.bt, .int .i64 f.mo, .int .i64 f.mt, .int .i64 f.ca, .slice f.ra f.rn f.rc, .int .i64 f.pr]) (o := 0) T5.out (by intro j v hj; match j, hj with | 0, hj => (simpa using hj) | 1, hj => (simpa using hj) | 2, hj => (simpa using hj) | 3, hj => (simpa using hj) | 4, hj => (simpa using hj) | 5, hj => (simpa using hj) | 6, hj => (simpa using hj) | 7, hj => (simpa using hj) | j + 8, hj => simp at hj) Try.underlying32 rfl (by kernel_rfl) rfl rfl rfl ?_) | (refine wpList_load_part (l := #[.string t.nm, .int .i64 t.bs, .int .i64 t.bt, .int .i64 t.mo, .int .i64 t.mt, .int .i64 t.ca, .slice t.ra t.rn t.rc, .int .i64 t.pr]) (o := 8) T5.out (by intro j v hj; match j, hj with | 0, hj => (simpa using hj) | 1, hj => (simpa using hj) | 2, hj => (simpa using hj) | 3, hj => (simpa using hj) | 4, hj => (simpa using hj) | 5, hj => (simpa using hj) | 6, hj => (simpa using hj) | 7, hj => (simpa using hj) | j + 8, hj => simp at hj) Try.underlying32 rfl (by kernel_rfl) rfl rfl rfl ?_) | (refine wpList_load_part (l := #[.int .i64 H, .int .i64 M, .int .i64 S]) (o := 16) T5.out (by intro j v hj; match j, hj with | 0, hj => (simpa using hj) | 1, hj => (simpa using hj) | 2, hj => (simpa using hj) | j + 3, hj => simp at hj) Try.underlying34 rfl (by kernel_rfl) rfl rfl rfl ?_) | (refine wpList_load_blk2 (t := 34) rfl rfl rfl Try.underlying34 rfl (by kernel_rfl) C5.out ?_) | (refine wpList_load_blk2 (t := 34) rfl rfl rfl Try.underlying34 rfl (by kernel_rfl) D5.out ?_))
    refine (steps_any b m cp f t p M S _).mono ?_
    rintro e w6 ⟨x, e1, rfl, hs, _, hb⟩
    have B6 := hid (B5.out.trans (hb.mono B5.out.size))
    have W6 := hid (W5.out.below hb W5.out.lt)
    have T6 := hid (T5.out.below hb T5.out.lt)
    have C6 := hid (C5.out.below hb C5.out.lt)
    have D6 := hid (D5.out.below hb D5.out.lt)
    have KS := hid hs
    clear hb hs
    go_wp2_with (first | (refine wpList_load_blk2 (t := 29) rfl rfl rfl Try.underlying29 rfl (by kernel_rfl) W6.out ?_) | (refine wpList_load_blk2 (t := 36) rfl rfl rfl Try.underlying36 rfl (by kernel_rfl) T6.out ?_) | (refine wpList_load_part (l := #[.string f.nm, .int .i64 f.bs, .int .i64 f.bt, .int .i64 f.mo, .int .i64 f.mt, .int .i64 f.ca, .slice f.ra f.rn f.rc, .int .i64 f.pr]) (o := 0) T6.out (by intro j v hj; match j, hj with | 0, hj => (simpa using hj) | 1, hj => (simpa using hj) | 2, hj => (simpa using hj) | 3, hj => (simpa using hj) | 4, hj => (simpa using hj) | 5, hj => (simpa using hj) | 6, hj => (simpa using hj) | 7, hj => (simpa using hj) | j + 8, hj => simp at hj) Try.underlying32 rfl (by kernel_rfl) rfl rfl rfl ?_) | (refine wpList_load_part (l := #[.string t.nm, .int .i64 t.bs, .int .i64 t.bt, .int .i64 t.mo, .int .i64 t.mt, .int .i64 t.ca, .slice t.ra t.rn t.rc, .int .i64 t.pr]) (o := 8) T6.out (by intro j v hj; match j, hj with | 0, hj => (simpa using hj) | 1, hj => (simpa using hj) | 2, hj => (simpa using hj) | 3, hj => (simpa using hj) | 4, hj => (simpa using hj) | 5, hj => (simpa using hj) | 6, hj => (simpa using hj) | 7, hj => (simpa using hj) | j + 8, hj => simp at hj) Try.underlying32 rfl (by kernel_rfl) rfl rfl rfl ?_) | (refine wpList_load_part (l := #[.int .i64 H, .int .i64 M, .int .i64 S]) (o := 16) T6.out (by intro j v hj; match j, hj with | 0, hj => (simpa using hj) | 1, hj => (simpa using hj) | 2, hj => (simpa using hj) | j + 3, hj => simp at hj) Try.underlying34 rfl (by kernel_rfl) rfl rfl rfl ?_) | (refine wpList_load_blk2 (t := 34) rfl rfl rfl Try.underlying34 rfl (by kernel_rfl) C6.out ?_) | (refine wpList_load_blk2 (t := 34) rfl rfl rfl Try.underlying34 rfl (by kernel_rfl) D6.out ?_))
    refine (steps_any b m cp f t H q S _).mono ?_
    rintro e w7 ⟨y, e2, rfl, hs, _, hb⟩
    have B7 := hid (B6.out.trans (hb.mono B6.out.size))
    have W7 := hid (W6.out.below hb W6.out.lt)
    have T7 := hid (T6.out.below hb T6.out.lt)
    have C7 := hid (C6.out.below hb C6.out.lt)
    have D7 := hid (D6.out.below hb D6.out.lt)
    have JS := hid hs
    clear hb hs
    subst hp hq
    obtain ⟨z1, z2, z3, rfl, rfl⟩ := rules_plain SS.out ha.1 KS.out JS.out
    clear SS KS JS
    have cT := T7.out.cell
    rcases z3 with rfl | ⟨rfl, z4⟩
    · go_wp2_with fail
      refine (awake_any _).mono ?_
      rintro e wz ⟨rfl, hb⟩
      go_wp2
      go_ret
      exact ⟨rfl, B7.out.trans (hb.mono B7.out.size)⟩
    · go_wp2_with fail
      refine (awake_any _).mono ?_
      rintro e wz ⟨rfl, hb⟩
      go_wp2
      go_ret
      exact ⟨rfl, B7.out.trans (hb.mono B7.out.size)⟩
theorem changeRules_walk (x0 : Int) (x1 : Int) (x2 : Int) (x3 : Int) (x4 : Int) (x5 : Int) (x6 : Int) (x7 : Int) (x8 : Int) (x9 : Int) (x10 : Int) (x11 : Int) (x12 : Int) (x13 : Int) (x14 : Int) (x15 : Int) (x16 : Int) (x17 : Int) (x18 : Int) (x19 : ByteArray) (x20 : Int) (x21 : Int) (x22 : Int) (x23 : Int) (x24 : Int) (a25 : Option Addr) (c25 : Nat) (x25 : List Int) (x26 : Int) (x27 : ByteArray) (x28 : Int) (x29 : Int) (x30 : Int) (x31 : Int) (x32 : Int) (a33 : Option Addr) (c33 : Nat) (x33 : List Int) (x34 : Int) (x35 : Int) (x36 : Int) (x37 : Int) (x38 : Int) (w : World) (_h0 : (Lit.int .i64 x0).wf = true) (_h1 : (Lit.int .i64 x1).wf = true) (_h2 : (Lit.int .i64 x2).wf = true) (_h3 : (Lit.int .i64 x3).wf = true) (_h4 : (Lit.int .i64 x4).wf = true) (_h5 : (Lit.int .i64 x5).wf = true) (_h6 : (Lit.int .i64 x6).wf = true) (_h7 : (Lit.int .i64 x7).wf = true) (_h8 : (Lit.int .i64 x8).wf = true) (_h9 : (Lit.int .i64 x9).wf = true) (_h10 : (Lit.int .i64 x10).wf = true) (_h11 : (Lit.int .i64 x11).wf = true) (_h12 : (Lit.int .i64 x12).wf = true) (_h13 : (Lit.int .i64 x13).wf = true) (_h14 : (Lit.int .i64 x14).wf = true) (_h15 : (Lit.int .i64 x15).wf = true) (_h16 : (Lit.int .i64 x16).wf = true) (_h17 : (Lit.int .i64 x17).wf = true) (_h18 : (Lit.int .i64 x18).wf = true) (h19 : x19.size ≤ maxLen) (_h20 : (Lit.int .i64 x20).wf = true) (_h21 : (Lit.int .i64 x21).wf = true) (_h22 : (Lit.int .i64 x22).wf = true) (_h23 : (Lit.int .i64 x23).wf = true) (_h24 : (Lit.int .i64 x24).wf = true) (_h25 : Rds Nn w 1 a25 x25.length (ints x25)) (g25 : x25.length ≤ c25 ∧ c25 ≤ maxLen ∧ (a25 = none → x25.length = 0 ∧ c25 = 0)) (_i25 : ∀ n ∈ x25, (Lit.int .i64 n).wf = true) (_h26 : (Lit.int .i64 x26).wf = true) (h27 : x27.size ≤ maxLen) (_h28 : (Lit.int .i64 x28).wf = true) (_h29 : (Lit.int .i64 x29).wf = true) (_h30 : (Lit.int .i64 x30).wf = true) (_h31 : (Lit.int .i64 x31).wf = true) (_h32 : (Lit.int .i64 x32).wf = true) (_h33 : Rds Nn w 1 a33 x33.length (ints x33)) (g33 : x33.length ≤ c33 ∧ c33 ≤ maxLen ∧ (a33 = none → x33.length = 0 ∧ c33 = 0)) (_i33 : ∀ n ∈ x33, (Lit.int .i64 n).wf = true) (_h34 : (Lit.int .i64 x34).wf = true) (_h35 : (Lit.int .i64 x35).wf = true) (_h36 : (Lit.int .i64 x36).wf = true) (_h37 : (Lit.int .i64 x37).wf = true) (h38 : (Lit.int .u8 x38).wf = true) :
    Calls Try.prog 7 #[.agg #[.int .i64 x0, .int .i64 x1, .int .i64 x2, .int .i64 x3, .int .i64 x4, .int .i64 x5, .int .i64 x6, .int .i64 x7, .int .i64 x8, .int .i64 x9, .int .i64 x10, .int .i64 x11, .int .i64 x12, .int .i64 x13, .int .i64 x14, .int .i64 x15, .int .i64 x16, .int .i64 x17, .int .i64 x18], .agg #[.string x19, .int .i64 x20, .int .i64 x21, .int .i64 x22, .int .i64 x23, .int .i64 x24, .slice a25 x25.length c25, .int .i64 x26, .string x27, .int .i64 x28, .int .i64 x29, .int .i64 x30, .int .i64 x31, .int .i64 x32, .slice a33 x33.length c33, .int .i64 x34, .int .i64 x35, .int .i64 x36, .int .i64 x37], .int .u8 x38] w fun e w' => e = .returned (.bool true) ∧ Below w.heap.size w w' := by
  exact changeRules_in ⟨x0, x1, x2, x3, x4, x5, x6, x7, x8⟩ ⟨x9, x10, x11, x12, x13, x14, x15, x16, x17⟩ x18 ⟨x19, x20, x21, x22, x23, x24, a25, _, c25, x26⟩ ⟨x27, x28, x29, x30, x31, x32, a33, _, c33, x34⟩ x35 x36 x37 x38 (by simp [Lit.wf, IntKind.min, IntKind.max, IntKind.bits, IntKind.signed] at h38; omega) w ⟨Nat.le_trans g25.1 g25.2.1, h19⟩ ⟨Nat.le_trans g33.1 g33.2.1, h27⟩
end Go.Proofs.Ytddphdkhaaolmaa
