/- ChangeSettled: for every input the law returns true. No condition. -/
import Derived.Test.YtddphdkhaaolmaaCShort
import Derived.Test.YtddphdkhaaolmaaCRulesPlain
namespace Go.Proofs.Ytddphdkhaaolmaa
open Go.RowKit

theorem wpList_load_blk_g {P : Program} {w : World} {b : Nat} {t e : TypeId} {cs : Array Value} {d : TypeDesc} {ops : Array Oper} {rest : List Oper} {op : Oper} {a : Act} {Q : Exit → Act → World → Prop} {x : Operand} (ho : op.op = .load t x) (hw : Region.wanted op (yielded ops a.tmps) = true) (hx : a.eval x = .pointer (some ⟨b, 0, none⟩)) (hu : P.underlying t = some d) (hd : d.isRow = true) (hi : (P.info? t).map (·.size) = some cs.size)
    (h : Blk w b e cs) (hk : wpList P ops Q rest (a.put op.dst (.agg cs)) w) : wpList P ops Q (op :: rest) a w := by
  rw [wpList, if_pos hw]
  refine .inl ?_
  unfold Oper.wp
  rw [exec_loads ho hx (load_blk h hu hd hi)]
  exact hk
theorem wpList_load_part_g {P : Program} {w : World} {b o : Nat} {t e : TypeId} {cs l : Array Value} {d : TypeDesc} {ops : Array Oper} {rest : List Oper} {op : Oper} {a : Act} {Q : Exit → Act → World → Prop} {x : Operand} (h : Blk w b e cs) (hl : ∀ j v, l[j]? = some v → cs[o + j]? = some v) (hu : P.underlying t = some d) (hd : d.isRow = true) (hi : (P.info? t).map (·.size) = some l.size)
    (hw : Region.wanted op (yielded ops a.tmps) = true) (ho : op.op = .load t x) (hx : a.eval x = .pointer (some ⟨b, o, none⟩)) (hk : wpList P ops Q rest (a.put op.dst (.agg l)) w) : wpList P ops Q (op :: rest) a w := by
  rw [wpList, if_pos hw]
  refine .inl ?_
  unfold Oper.wp
  rw [exec_loads ho hx (load_part h hl hu hd hi)]
  exact hk
set_option linter.unusedSimpArgs false in
set_option maxRecDepth 100000 in
set_option maxHeartbeats 16000000 in
theorem changeSettled_in (b m : CP) (cp : Int) (f t : GR) (H M S : Int) (w : World) (hn1 : f.rn ≤ maxLen ∧ f.nm.size ≤ maxLen) (hn2 : t.rn ≤ maxLen ∧ t.nm.size ≤ maxLen) : Calls Try.prog 6 #[.agg #[.int .i64 b.kp, .int .i64 b.ki, .int .i64 b.sh, .int .i64 b.lo, .int .i64 b.hi, .int .i64 b.rate, .int .i64 b.ga, .int .i64 b.la, .int .i64 b.de, .int .i64 m.kp, .int .i64 m.ki, .int .i64 m.sh, .int .i64 m.lo, .int .i64 m.hi, .int .i64 m.rate, .int .i64 m.ga, .int .i64 m.la, .int .i64 m.de, .int .i64 cp], .agg #[.string f.nm, .int .i64 f.bs, .int .i64 f.bt, .int .i64 f.mo, .int .i64 f.mt, .int .i64 f.ca, .slice f.ra f.rn f.rc, .int .i64 f.pr, .string t.nm, .int .i64 t.bs, .int .i64 t.bt, .int .i64 t.mo, .int .i64 t.mt, .int .i64 t.ca, .slice t.ra t.rn t.rc, .int .i64 t.pr, .int .i64 H, .int .i64 M, .int .i64 S]] w fun e w' => e = .returned (.bool true) ∧ Below w.heap.size w w' := by
  have W0 := hid (Blk.alloc (Blk.at_new w (b := w.heap.size) (t := 29) (cs := #[.int .i64 b.kp, .int .i64 b.ki, .int .i64 b.sh, .int .i64 b.lo, .int .i64 b.hi, .int .i64 b.rate, .int .i64 b.ga, .int .i64 b.la, .int .i64 b.de, .int .i64 m.kp, .int .i64 m.ki, .int .i64 m.sh, .int .i64 m.lo, .int .i64 m.hi, .int .i64 m.rate, .int .i64 m.ga, .int .i64 m.la, .int .i64 m.de, .int .i64 cp]) rfl) (.cells #[.string f.nm, .int .i64 f.bs, .int .i64 f.bt, .int .i64 f.mo, .int .i64 f.mt, .int .i64 f.ca, .slice f.ra f.rn f.rc, .int .i64 f.pr, .string t.nm, .int .i64 t.bs, .int .i64 t.bt, .int .i64 t.mo, .int .i64 t.mt, .int .i64 t.ca, .slice t.ra t.rn t.rc, .int .i64 t.pr, .int .i64 H, .int .i64 M, .int .i64 S] 36))
  have T0 := hid (Blk.at_new (w.alloc (.cells #[.int .i64 b.kp, .int .i64 b.ki, .int .i64 b.sh, .int .i64 b.lo, .int .i64 b.hi, .int .i64 b.rate, .int .i64 b.ga, .int .i64 b.la, .int .i64 b.de, .int .i64 m.kp, .int .i64 m.ki, .int .i64 m.sh, .int .i64 m.lo, .int .i64 m.hi, .int .i64 m.rate, .int .i64 m.ga, .int .i64 m.la, .int .i64 m.de, .int .i64 cp] 29)) (b := w.heap.size + 1) (t := 36) (cs := #[.string f.nm, .int .i64 f.bs, .int .i64 f.bt, .int .i64 f.mo, .int .i64 f.mt, .int .i64 f.ca, .slice f.ra f.rn f.rc, .int .i64 f.pr, .string t.nm, .int .i64 t.bs, .int .i64 t.bt, .int .i64 t.mo, .int .i64 t.mt, .int .i64 t.ca, .slice t.ra t.rn t.rc, .int .i64 t.pr, .int .i64 H, .int .i64 M, .int .i64 S]) (by simp))
  have B0 := hid (Below.alloc (Below.alloc (Below.refl w.heap.size w) (Nat.le_refl _) (.cells #[.int .i64 b.kp, .int .i64 b.ki, .int .i64 b.sh, .int .i64 b.lo, .int .i64 b.hi, .int .i64 b.rate, .int .i64 b.ga, .int .i64 b.la, .int .i64 b.de, .int .i64 m.kp, .int .i64 m.ki, .int .i64 m.sh, .int .i64 m.lo, .int .i64 m.hi, .int .i64 m.rate, .int .i64 m.ga, .int .i64 m.la, .int .i64 m.de, .int .i64 cp] 29)) (by simp <;> omega) (.cells #[.string f.nm, .int .i64 f.bs, .int .i64 f.bt, .int .i64 f.mo, .int .i64 f.mt, .int .i64 f.ca, .slice f.ra f.rn f.rc, .int .i64 f.pr, .string t.nm, .int .i64 t.bs, .int .i64 t.bt, .int .i64 t.mo, .int .i64 t.mt, .int .i64 t.ca, .slice t.ra t.rn t.rc, .int .i64 t.pr, .int .i64 H, .int .i64 M, .int .i64 S] 36))
  go_enter Try.func6, Try.ntmps6
  go_wp2_with (first | (refine wpList_load_blk2 (t := 29) rfl rfl rfl Try.underlying29 rfl (by kernel_rfl) W0.out ?_) | (refine wpList_load_blk2 (t := 36) rfl rfl rfl Try.underlying36 rfl (by kernel_rfl) T0.out ?_) | (refine wpList_load_part (l := #[.string f.nm, .int .i64 f.bs, .int .i64 f.bt, .int .i64 f.mo, .int .i64 f.mt, .int .i64 f.ca, .slice f.ra f.rn f.rc, .int .i64 f.pr]) (o := 0) T0.out (by intro j v hj; match j, hj with | 0, hj => (simpa using hj) | 1, hj => (simpa using hj) | 2, hj => (simpa using hj) | 3, hj => (simpa using hj) | 4, hj => (simpa using hj) | 5, hj => (simpa using hj) | 6, hj => (simpa using hj) | 7, hj => (simpa using hj) | j + 8, hj => simp at hj) Try.underlying32 rfl (by kernel_rfl) rfl rfl rfl ?_) | (refine wpList_load_part (l := #[.string t.nm, .int .i64 t.bs, .int .i64 t.bt, .int .i64 t.mo, .int .i64 t.mt, .int .i64 t.ca, .slice t.ra t.rn t.rc, .int .i64 t.pr]) (o := 8) T0.out (by intro j v hj; match j, hj with | 0, hj => (simpa using hj) | 1, hj => (simpa using hj) | 2, hj => (simpa using hj) | 3, hj => (simpa using hj) | 4, hj => (simpa using hj) | 5, hj => (simpa using hj) | 6, hj => (simpa using hj) | 7, hj => (simpa using hj) | j + 8, hj => simp at hj) Try.underlying32 rfl (by kernel_rfl) rfl rfl rfl ?_) | (refine wpList_load_part (l := #[.int .i64 H, .int .i64 M, .int .i64 S]) (o := 16) T0.out (by intro j v hj; match j, hj with | 0, hj => (simpa using hj) | 1, hj => (simpa using hj) | 2, hj => (simpa using hj) | j + 3, hj => simp at hj) Try.underlying34 rfl (by kernel_rfl) rfl rfl rfl ?_))
  refine (short_any f t H M S _ hn1 hn2).mono ?_
  rintro e w1 ⟨rfl, hb⟩
  have B1 := hid (B0.out.trans (hb.mono B0.out.size))
  have W1 := hid (W0.out.below hb W0.out.lt)
  have T1 := hid (T0.out.below hb T0.out.lt)
  clear hb
  obtain ⟨sh, hsh⟩ : ∃ sh, shortB f t = sh := ⟨_, rfl⟩
  rw [hsh]
  clear hsh
  cases sh with
  | false =>
    go_wp2_with fail
    refine (awake_any _).mono ?_
    rintro e wz ⟨rfl, hb⟩
    go_wp2
    go_ret
    exact ⟨rfl, B1.out.trans (hb.mono B1.out.size)⟩
  | true =>
  clear W0 T0 B0
  go_wp2_with (first | (refine wpList_load_blk2 (t := 29) rfl rfl rfl Try.underlying29 rfl (by kernel_rfl) W1.out ?_) | (refine wpList_load_blk2 (t := 36) rfl rfl rfl Try.underlying36 rfl (by kernel_rfl) T1.out ?_) | (refine wpList_load_part (l := #[.string f.nm, .int .i64 f.bs, .int .i64 f.bt, .int .i64 f.mo, .int .i64 f.mt, .int .i64 f.ca, .slice f.ra f.rn f.rc, .int .i64 f.pr]) (o := 0) T1.out (by intro j v hj; match j, hj with | 0, hj => (simpa using hj) | 1, hj => (simpa using hj) | 2, hj => (simpa using hj) | 3, hj => (simpa using hj) | 4, hj => (simpa using hj) | 5, hj => (simpa using hj) | 6, hj => (simpa using hj) | 7, hj => (simpa using hj) | j + 8, hj => simp at hj) Try.underlying32 rfl (by kernel_rfl) rfl rfl rfl ?_) | (refine wpList_load_part (l := #[.string t.nm, .int .i64 t.bs, .int .i64 t.bt, .int .i64 t.mo, .int .i64 t.mt, .int .i64 t.ca, .slice t.ra t.rn t.rc, .int .i64 t.pr]) (o := 8) T1.out (by intro j v hj; match j, hj with | 0, hj => (simpa using hj) | 1, hj => (simpa using hj) | 2, hj => (simpa using hj) | 3, hj => (simpa using hj) | 4, hj => (simpa using hj) | 5, hj => (simpa using hj) | 6, hj => (simpa using hj) | 7, hj => (simpa using hj) | j + 8, hj => simp at hj) Try.underlying32 rfl (by kernel_rfl) rfl rfl rfl ?_) | (refine wpList_load_part (l := #[.int .i64 H, .int .i64 M, .int .i64 S]) (o := 16) T1.out (by intro j v hj; match j, hj with | 0, hj => (simpa using hj) | 1, hj => (simpa using hj) | 2, hj => (simpa using hj) | j + 3, hj => simp at hj) Try.underlying34 rfl (by kernel_rfl) rfl rfl rfl ?_))
  refine (steps_any b m cp f t H M S _).mono ?_
  rintro e w2 ⟨v, er, rfl, hs, hv, hb⟩
  have B2 := hid (B1.out.trans (hb.mono B1.out.size))
  have W2 := hid (W1.out.below hb W1.out.lt)
  have T2 := hid (T1.out.below hb T1.out.lt)
  have SS := hid hs
  have VV := hid hv
  clear hb hs hv
  by_cases he : er = 0 ∨ er = 32
  rotate_left
  · obtain rfl := settled_zero SS.out (.inl he)
    have hz1 : (er != 0) = true := by simpa using (fun e => he (.inl e) : er ≠ 0)
    have hz2 : (er != 32) = true := by simpa using (fun e => he (.inr e) : er ≠ 32)
    clear he SS VV
    go_wp2_with fail
    refine (awake_any _).mono ?_
    rintro e wz ⟨rfl, hb⟩
    go_wp2
    go_ret
    exact ⟨rfl, B2.out.trans (hb.mono B2.out.size)⟩
  rcases he with rfl | rfl
  · go_wp2_with (first | (refine wpList_load_blk_g (t := 29) rfl (by rfl) rfl Try.underlying29 rfl (by kernel_rfl) W2.out ?_) | (refine wpList_load_part_g (l := #[.int .i64 H, .int .i64 M, .int .i64 S]) (o := 16) T2.out (by intro j v hj; match j, hj with | 0, hj => (simpa using hj) | 1, hj => (simpa using hj) | 2, hj => (simpa using hj) | j + 3, hj => simp at hj) Try.underlying34 rfl (by kernel_rfl) (by rfl) rfl rfl ?_))
    refine (gcheck_any H M S _).mono ?_
    rintro e w3 ⟨rfl, hb⟩
    have B3 := hid (B2.out.trans (hb.mono B2.out.size))
    have W3 := hid (W2.out.below hb W2.out.lt)
    have T3 := hid (T2.out.below hb T2.out.lt)
    clear hb
    by_cases hru : ruErr H M S = 0
    rotate_left
    · obtain rfl := settled_zero SS.out (.inr (.inl hru))
      have hz2 : (ruErr H M S != 0) = true := by simpa using hru
      clear hru SS VV
      go_wp2_with fail
      refine (awake_any _).mono ?_
      rintro e wz ⟨rfl, hb⟩
      go_wp2
      go_ret
      exact ⟨rfl, B3.out.trans (hb.mono B3.out.size)⟩
    rw [hru]
    have HRU := hid hru
    obtain ⟨r1, r2, r3, r4, r5, r6⟩ := ru_ok hru
    clear hru
    go_wp2_with (first | (refine wpList_load_blk_g (t := 29) rfl (by rfl) rfl Try.underlying29 rfl (by kernel_rfl) W3.out ?_) | (refine wpList_load_part_g (l := #[.int .i64 H, .int .i64 M, .int .i64 S]) (o := 16) T3.out (by intro j v hj; match j, hj with | 0, hj => (simpa using hj) | 1, hj => (simpa using hj) | 2, hj => (simpa using hj) | j + 3, hj => simp at hj) Try.underlying34 rfl (by kernel_rfl) (by rfl) rfl rfl ?_))
    refine (wcheck_any b m cp _).mono ?_
    rintro e w4 ⟨rfl, hb⟩
    have B4 := hid (B3.out.trans (hb.mono B3.out.size))
    have W4 := hid (W3.out.below hb W3.out.lt)
    have T4 := hid (T3.out.below hb T3.out.lt)
    clear hb
    by_cases hcw : chkW b m cp = 0
    rotate_left
    · obtain rfl := settled_zero SS.out (.inr (.inr hcw))
      have hz2 : (chkW b m cp != 0) = true := by simpa using hcw
      clear hcw SS VV HRU
      go_wp2_with fail
      refine (awake_any _).mono ?_
      rintro e wz ⟨rfl, hb⟩
      go_wp2
      go_ret
      exact ⟨rfl, B4.out.trans (hb.mono B4.out.size)⟩
    rw [hcw]
    have HCW := hid hcw
    clear hcw
    have cT := T4.out.cell
    go_wp2_with (first | (refine wpList_load_blk2 (t := 29) rfl rfl rfl Try.underlying29 rfl (by kernel_rfl) W4.out ?_) | (refine wpList_load_blk2 (t := 36) rfl rfl rfl Try.underlying36 rfl (by kernel_rfl) T4.out ?_) | (refine wpList_load_part (l := #[.string f.nm, .int .i64 f.bs, .int .i64 f.bt, .int .i64 f.mo, .int .i64 f.mt, .int .i64 f.ca, .slice f.ra f.rn f.rc, .int .i64 f.pr]) (o := 0) T4.out (by intro j v hj; match j, hj with | 0, hj => (simpa using hj) | 1, hj => (simpa using hj) | 2, hj => (simpa using hj) | 3, hj => (simpa using hj) | 4, hj => (simpa using hj) | 5, hj => (simpa using hj) | 6, hj => (simpa using hj) | 7, hj => (simpa using hj) | j + 8, hj => simp at hj) Try.underlying32 rfl (by kernel_rfl) rfl rfl rfl ?_) | (refine wpList_load_part (l := #[.string t.nm, .int .i64 t.bs, .int .i64 t.bt, .int .i64 t.mo, .int .i64 t.mt, .int .i64 t.ca, .slice t.ra t.rn t.rc, .int .i64 t.pr]) (o := 8) T4.out (by intro j v hj; match j, hj with | 0, hj => (simpa using hj) | 1, hj => (simpa using hj) | 2, hj => (simpa using hj) | 3, hj => (simpa using hj) | 4, hj => (simpa using hj) | 5, hj => (simpa using hj) | 6, hj => (simpa using hj) | 7, hj => (simpa using hj) | j + 8, hj => simp at hj) Try.underlying32 rfl (by kernel_rfl) rfl rfl rfl ?_) | (refine wpList_load_part (l := #[.int .i64 H, .int .i64 M, .int .i64 S]) (o := 16) T4.out (by intro j v hj; match j, hj with | 0, hj => (simpa using hj) | 1, hj => (simpa using hj) | 2, hj => (simpa using hj) | j + 3, hj => simp at hj) Try.underlying34 rfl (by kernel_rfl) rfl rfl rfl ?_))
    refine (path_any b m cp f t M _).mono ?_
    rintro e w5 ⟨A, c, pe, l, rfl, hs, hr, ht, ⟨_, hle⟩, hb⟩
    have B5 := hid (B4.out.trans (hb.mono B4.out.size))
    have W5 := hid (W4.out.below hb W4.out.lt)
    have T5 := hid (T4.out.below hb T4.out.lt)
    obtain ⟨rfl, p2, p3, p4, p5, p6⟩ := settled_path SS.out (.inl rfl) HRU.out HCW.out hs
    have SC0 := hid p3
    have SE0 := hid p4
    have RDS := hid hr
    have TW2 := hid ht
    clear p3 p4 hr ht hs hb cT W1 T1 W2 T2 W3 T3 W4 T4 SS VV HRU HCW W5
    obtain ⟨n, rfl⟩ : ∃ n : Nat, M = n := ⟨M.toNat, by omega⟩
    rw [Int.toNat_natCast] at p2
    have HN := hid p2
    rw [p2] at RDS hle ⊢
    clear p2
    have cT := T5.out.cell
    go_wp2_with fail
    clear cT
    go_loopw [9, 10, 11] (fun uf ur ui wr => ∃ (k : Nat) (row fs : Int), k ≤ n ∧ ui = .int .i64 k ∧ ur = .int .i64 row ∧ uf = .int .i64 fs ∧ (0 ≤ row ∧ row ≤ k) ∧ ((fs = 0 ∧ scan t H row k (l.drop k) = scan t H 0 0 l) ∨ (0 < fs ∧ fs = scan t H 0 0 l)) ∧ Below w5.heap.size w5 wr) (fun _ _ ui _ => n - (intOf ui).toNat)
    case atStart => exact ⟨0, 0, 0, Nat.zero_le _, rfl, rfl, rfl, by omega, .inl ⟨rfl, rfl⟩, Below.refl _ _⟩
    case round =>
      obtain ⟨k, row, fs, hk, rfl, rfl, rfl, hrow, hsc, hbel⟩ := hrel
      have BB := hid hbel
      clear hbel
      have BX := hid (B5.out.trans (BB.out.mono B5.out.size))
      have TX := hid (T5.out.below BB.out T5.out.lt)
      rcases hsc with ⟨rfl, hsc⟩ | ⟨h0, hsc⟩
      · by_cases hlt : k < n
        · obtain ⟨p1, o1, x, y, rfl, _, hpq, hc⟩ := cells_at RDS.out TW2.out HN.out.symm hlt
          have HC := hid hc
          rw [g_drop hpq, scan] at hsc
          simp only [List.getD_cons_zero, List.getD_cons_succ] at hsc
          have SC := hid hsc
          have wk1 : IntKind.i64.wrap ((k : Int) + 1) = k + 1 := IntWalk.i64_in _ (by omega)
          have wk2 : IntKind.i64.wrap (row + 1) = row + 1 := IntWalk.i64_in _ (by omega)
          clear hc hpq hsc
          go_upto_region 14 with fail
          refine wp_region_hand (fun w' => Blk w' (w.heap.size + 1) 36 #[.string f.nm, .int .i64 f.bs, .int .i64 f.bt, .int .i64 f.mo, .int .i64 f.mt, .int .i64 f.ca, .slice f.ra f.rn f.rc, .int .i64 f.pr, .string t.nm, .int .i64 t.bs, .int .i64 t.bt, .int .i64 t.mo, .int .i64 t.mt, .int .i64 t.ca, .slice t.ra t.rn t.rc, .int .i64 t.pr, .int .i64 H, .int .i64 (n : Int), .int .i64 S] ∧ Below w5.heap.size w5 w') (by kernel_rfl) ?_
          simp only [List.length_cons, List.length_nil, Nat.zero_add, Nat.reduceAdd]
          have hS : Blk wr.drew (w.heap.size + 1) 36 #[.string f.nm, .int .i64 f.bs, .int .i64 f.bt, .int .i64 f.mo, .int .i64 f.mt, .int .i64 f.ca, .slice f.ra f.rn f.rc, .int .i64 f.pr, .string t.nm, .int .i64 t.bs, .int .i64 t.bt, .int .i64 t.mo, .int .i64 t.mt, .int .i64 t.ca, .slice t.ra t.rn t.rc, .int .i64 t.pr, .int .i64 H, .int .i64 (n : Int), .int .i64 S] ∧ Below w5.heap.size w5 wr.drew := ⟨Blk.drew (T5.out.below BB.out T5.out.lt), Below.drew BB.out⟩
          refine take_at (i := 0) (v := ?_) rfl rfl (by kernel_rfl) (by kernel_rfl) (by kernel_rfl) (fun _ _ _ h => h) (Or.inl ⟨by rfl, ?_⟩) hS ?_
          rotate_left
          · intro w hSw; (try dsimp only at hSw); go_simp; try with_reducible rfl
          try simp only [List.setIfInBounds_toArray, List.set_cons_zero, List.set_cons_succ]
          refine take_at (i := 1) (v := .agg #[.string t.nm, .int .i64 t.bs, .int .i64 t.bt, .int .i64 t.mo, .int .i64 t.mt, .int .i64 t.ca, .slice t.ra t.rn t.rc, .int .i64 t.pr]) rfl rfl (by kernel_rfl) (by kernel_rfl) (by kernel_rfl) (fun _ _ _ h => h) (Or.inl ⟨by rfl, fun wi hSw => exec_loads (p := .pointer (some ⟨w.heap.size + 1, 8, none⟩)) rfl rfl (load_part (l := #[.string t.nm, .int .i64 t.bs, .int .i64 t.bt, .int .i64 t.mo, .int .i64 t.mt, .int .i64 t.ca, .slice t.ra t.rn t.rc, .int .i64 t.pr]) hSw.1 (by intro j v hj; match j, hj with | 0, hj => (simpa using hj) | 1, hj => (simpa using hj) | 2, hj => (simpa using hj) | 3, hj => (simpa using hj) | 4, hj => (simpa using hj) | 5, hj => (simpa using hj) | 6, hj => (simpa using hj) | 7, hj => (simpa using hj) | j + 8, hj => simp at hj) Try.underlying32 rfl (by kernel_rfl))⟩) hS ?_
          try simp only [List.setIfInBounds_toArray, List.set_cons_zero, List.set_cons_succ]
          refine take_at (i := 2) (v := ?_) rfl rfl (by kernel_rfl) (by kernel_rfl) (by kernel_rfl) (fun _ _ _ h => h) (Or.inl ⟨by rfl, ?_⟩) hS ?_
          rotate_left
          · intro w hSw; (try dsimp only at hSw); go_simp; try with_reducible rfl
          try simp only [List.setIfInBounds_toArray, List.set_cons_zero, List.set_cons_succ]
          refine take_at (i := 3) (v := ?_) rfl rfl (by kernel_rfl) (by kernel_rfl) (by kernel_rfl) (fun _ _ _ h => h) (Or.inl ⟨by rfl, ?_⟩) hS ?_
          rotate_left
          · intro w hSw; (try dsimp only at hSw); go_simp; try with_reducible rfl
          try simp only [List.setIfInBounds_toArray, List.set_cons_zero, List.set_cons_succ]
          refine take_at (i := 4) (v := ?_) rfl rfl (by kernel_rfl) (by kernel_rfl) (by kernel_rfl) (fun _ _ _ h => h) (Or.inl ⟨by rfl, ?_⟩) hS ?_
          rotate_left
          · intro w hSw; (try dsimp only at hSw); go_simp; try with_reducible rfl
          try simp only [List.setIfInBounds_toArray, List.set_cons_zero, List.set_cons_succ]
          refine take_at (i := 5) (v := .agg #[.int .i64 x, .int .i64 y]) rfl rfl (by kernel_rfl) (by kernel_rfl) (by kernel_rfl) (fun _ _ _ h => h) (Or.inl ⟨by rfl, fun wi hSw => exec_loads (p := .pointer (some ⟨p1, o1 + k * 2, none⟩)) rfl rfl (load_two (HC.out _ hSw.2).1 (HC.out _ hSw.2).2 Try.underlying60 rfl (by kernel_rfl))⟩) hS ?_
          try simp only [List.setIfInBounds_toArray, List.set_cons_zero, List.set_cons_succ]
          refine wpAnyH_ready (rs := [6]) (by kernel_rfl) (by simp) ?_
          refine AllReadyH.cons rfl (fun K hK => ?_) AllReadyH.nil
          go_simp
          (go_at_call 24; refine (meets_any t x y _).mono ?_; rintro e w6 ⟨rfl, hb⟩; have HB := hid (show Below wr.heap.size wr w6 from by first | exact hb | exact (Below.drew (Below.refl _ _)).trans hb); have BB6 := hid (BB.out.trans (HB.out.mono BB.out.size)); have T6 := hid (T5.out.below BB6.out T5.out.lt); clear hb HB)
          refine hK.out _ _ ⟨T6.out, BB6.out⟩ (fun hS => ?_)
          clear hK K
          try simp only [Act.put, List.setIfInBounds_toArray, List.set_cons_zero, List.set_cons_succ]
          have c6 := T6.out.cell
          by_cases hm : meetB t x y = true
          · rw [hm]
            have SD := hid (by have := SC.out; rw [if_pos hm] at this; exact this)
            clear hm
            refine take_at (i := 7) (v := ?_) rfl rfl (by kernel_rfl) (by kernel_rfl) (by kernel_rfl) (fun _ _ _ h => h) (Or.inl ⟨by rfl, ?_⟩) hS ?_
            rotate_left
            · intro w hSw; (try dsimp only at hSw); go_simp; try with_reducible rfl
            try simp only [List.setIfInBounds_toArray, List.set_cons_zero, List.set_cons_succ]
            refine wpAnyH_done (by kernel_rfl) ?_ _
            simp only [Sure, Exit.then]
            clear hS
            try simp only [Exit.inBlock, Exit.then]
            by_cases hh : H ≤ row + 1
            · have SE := hid (by have := SD.out; rw [if_pos hh] at this; exact this)
              go_wp2
              go_roundw
              case rel => exact ⟨k + 1, row + 1, (k : Int) + 1, by omega, by go_num, rfl, rfl, by omega, .inr ⟨by omega, SE.out⟩, BB6.out⟩
              case measure => simp [intOf]; omega
            · have SE := hid (by have := SD.out; rw [if_neg hh] at this; exact this)
              go_wp2
              go_roundw
              case rel => exact ⟨k + 1, row + 1, 0, by omega, by go_num, rfl, rfl, by omega, .inl ⟨rfl, by have := SE.out; simpa using this⟩, BB6.out⟩
              case measure => simp [intOf]; omega
          · have hm2 : meetB t x y = false := by simpa using hm
            rw [hm2]
            have SD := hid (by have := SC.out; rw [if_neg hm] at this; exact this)
            clear hm hm2
            refine take_at (i := 7) (v := ?_) rfl rfl (by kernel_rfl) (by kernel_rfl) (by kernel_rfl) (fun _ _ _ h => h) (Or.inl ⟨by rfl, ?_⟩) hS ?_
            rotate_left
            · intro w hSw; (try dsimp only at hSw); go_simp; try with_reducible rfl
            try simp only [List.setIfInBounds_toArray, List.set_cons_zero, List.set_cons_succ]
            refine wpAnyH_done (by kernel_rfl) ?_ _
            simp only [Sure, Exit.then]
            clear hS
            try simp only [Exit.inBlock, Exit.then]
            have hh : ¬ (H ≤ 0) := by omega
            have SE := hid (by have := SD.out; rw [if_neg hh] at this; exact this)
            go_wp2
            go_roundw
            case rel => exact ⟨k + 1, 0, 0, by omega, by go_num, rfl, rfl, by omega, .inl ⟨rfl, by have := SE.out; simpa using this⟩, BB6.out⟩
            case measure => simp [intOf]; omega
        · obtain rfl : n = k := by omega
          have SZ : scan t H 0 0 l = 0 := by rw [← hsc, List.drop_eq_nil_of_le (by have := HN.out; omega)]; rfl
          clear hsc
          have := SC0.out
          have hq := SE0.out
          rw [SZ] at hq this
          subst this
          clear SZ SC0
          exact absurd rfl (hq.1 (by first | trivial | rfl))
      · have hq := SE0.out
        have hv := SC0.out
        rw [← hsc] at hq hv
        subst hv
        clear hsc SC0 SE0
        clear hq
        have hz0 : (v == 0) = false := by simp; omega
        by_cases hlt : k < n
        · go_wp2_with fail
          refine (awake_any _).mono ?_
          rintro e wz ⟨rfl, hb⟩
          go_wp2
          go_ret
          exact ⟨rfl, BX.out.trans (hb.mono BX.out.size)⟩
        · go_wp2_with fail
          refine (awake_any _).mono ?_
          rintro e wz ⟨rfl, hb⟩
          go_wp2
          go_ret
          exact ⟨rfl, BX.out.trans (hb.mono BX.out.size)⟩
  · go_wp2_with (first | (refine wpList_load_blk_g (t := 29) rfl (by rfl) rfl Try.underlying29 rfl (by kernel_rfl) W2.out ?_) | (refine wpList_load_part_g (l := #[.int .i64 H, .int .i64 M, .int .i64 S]) (o := 16) T2.out (by intro j v hj; match j, hj with | 0, hj => (simpa using hj) | 1, hj => (simpa using hj) | 2, hj => (simpa using hj) | j + 3, hj => simp at hj) Try.underlying34 rfl (by kernel_rfl) (by rfl) rfl rfl ?_))
    refine (gcheck_any H M S _).mono ?_
    rintro e w3 ⟨rfl, hb⟩
    have B3 := hid (B2.out.trans (hb.mono B2.out.size))
    have W3 := hid (W2.out.below hb W2.out.lt)
    have T3 := hid (T2.out.below hb T2.out.lt)
    clear hb
    by_cases hru : ruErr H M S = 0
    rotate_left
    · obtain rfl := settled_zero SS.out (.inr (.inl hru))
      have hz2 : (ruErr H M S != 0) = true := by simpa using hru
      clear hru SS VV
      go_wp2_with fail
      refine (awake_any _).mono ?_
      rintro e wz ⟨rfl, hb⟩
      go_wp2
      go_ret
      exact ⟨rfl, B3.out.trans (hb.mono B3.out.size)⟩
    rw [hru]
    have HRU := hid hru
    obtain ⟨r1, r2, r3, r4, r5, r6⟩ := ru_ok hru
    clear hru
    go_wp2_with (first | (refine wpList_load_blk_g (t := 29) rfl (by rfl) rfl Try.underlying29 rfl (by kernel_rfl) W3.out ?_) | (refine wpList_load_part_g (l := #[.int .i64 H, .int .i64 M, .int .i64 S]) (o := 16) T3.out (by intro j v hj; match j, hj with | 0, hj => (simpa using hj) | 1, hj => (simpa using hj) | 2, hj => (simpa using hj) | j + 3, hj => simp at hj) Try.underlying34 rfl (by kernel_rfl) (by rfl) rfl rfl ?_))
    refine (wcheck_any b m cp _).mono ?_
    rintro e w4 ⟨rfl, hb⟩
    have B4 := hid (B3.out.trans (hb.mono B3.out.size))
    have W4 := hid (W3.out.below hb W3.out.lt)
    have T4 := hid (T3.out.below hb T3.out.lt)
    clear hb
    by_cases hcw : chkW b m cp = 0
    rotate_left
    · obtain rfl := settled_zero SS.out (.inr (.inr hcw))
      have hz2 : (chkW b m cp != 0) = true := by simpa using hcw
      clear hcw SS VV HRU
      go_wp2_with fail
      refine (awake_any _).mono ?_
      rintro e wz ⟨rfl, hb⟩
      go_wp2
      go_ret
      exact ⟨rfl, B4.out.trans (hb.mono B4.out.size)⟩
    rw [hcw]
    have HCW := hid hcw
    clear hcw
    have cT := T4.out.cell
    go_wp2_with (first | (refine wpList_load_blk2 (t := 29) rfl rfl rfl Try.underlying29 rfl (by kernel_rfl) W4.out ?_) | (refine wpList_load_blk2 (t := 36) rfl rfl rfl Try.underlying36 rfl (by kernel_rfl) T4.out ?_) | (refine wpList_load_part (l := #[.string f.nm, .int .i64 f.bs, .int .i64 f.bt, .int .i64 f.mo, .int .i64 f.mt, .int .i64 f.ca, .slice f.ra f.rn f.rc, .int .i64 f.pr]) (o := 0) T4.out (by intro j v hj; match j, hj with | 0, hj => (simpa using hj) | 1, hj => (simpa using hj) | 2, hj => (simpa using hj) | 3, hj => (simpa using hj) | 4, hj => (simpa using hj) | 5, hj => (simpa using hj) | 6, hj => (simpa using hj) | 7, hj => (simpa using hj) | j + 8, hj => simp at hj) Try.underlying32 rfl (by kernel_rfl) rfl rfl rfl ?_) | (refine wpList_load_part (l := #[.string t.nm, .int .i64 t.bs, .int .i64 t.bt, .int .i64 t.mo, .int .i64 t.mt, .int .i64 t.ca, .slice t.ra t.rn t.rc, .int .i64 t.pr]) (o := 8) T4.out (by intro j v hj; match j, hj with | 0, hj => (simpa using hj) | 1, hj => (simpa using hj) | 2, hj => (simpa using hj) | 3, hj => (simpa using hj) | 4, hj => (simpa using hj) | 5, hj => (simpa using hj) | 6, hj => (simpa using hj) | 7, hj => (simpa using hj) | j + 8, hj => simp at hj) Try.underlying32 rfl (by kernel_rfl) rfl rfl rfl ?_) | (refine wpList_load_part (l := #[.int .i64 H, .int .i64 M, .int .i64 S]) (o := 16) T4.out (by intro j v hj; match j, hj with | 0, hj => (simpa using hj) | 1, hj => (simpa using hj) | 2, hj => (simpa using hj) | j + 3, hj => simp at hj) Try.underlying34 rfl (by kernel_rfl) rfl rfl rfl ?_))
    refine (path_any b m cp f t M _).mono ?_
    rintro e w5 ⟨A, c, pe, l, rfl, hs, hr, ht, ⟨_, hle⟩, hb⟩
    have B5 := hid (B4.out.trans (hb.mono B4.out.size))
    have W5 := hid (W4.out.below hb W4.out.lt)
    have T5 := hid (T4.out.below hb T4.out.lt)
    obtain ⟨rfl, p2, p3, p4, p5, p6⟩ := settled_path SS.out (.inr rfl) HRU.out HCW.out hs
    have SC0 := hid p3
    have SE0 := hid p4
    have RDS := hid hr
    have TW2 := hid ht
    clear p3 p4 hr ht hs hb cT W1 T1 W2 T2 W3 T3 W4 T4 SS VV HRU HCW W5
    obtain ⟨n, rfl⟩ : ∃ n : Nat, M = n := ⟨M.toNat, by omega⟩
    rw [Int.toNat_natCast] at p2
    have HN := hid p2
    rw [p2] at RDS hle ⊢
    clear p2
    have cT := T5.out.cell
    go_wp2_with fail
    clear cT
    go_loopw [9, 10, 11] (fun uf ur ui wr => ∃ (k : Nat) (row fs : Int), k ≤ n ∧ ui = .int .i64 k ∧ ur = .int .i64 row ∧ uf = .int .i64 fs ∧ (0 ≤ row ∧ row ≤ k) ∧ ((fs = 0 ∧ scan t H row k (l.drop k) = scan t H 0 0 l) ∨ (0 < fs ∧ fs = scan t H 0 0 l)) ∧ Below w5.heap.size w5 wr) (fun _ _ ui _ => n - (intOf ui).toNat)
    case atStart => exact ⟨0, 0, 0, Nat.zero_le _, rfl, rfl, rfl, by omega, .inl ⟨rfl, rfl⟩, Below.refl _ _⟩
    case round =>
      obtain ⟨k, row, fs, hk, rfl, rfl, rfl, hrow, hsc, hbel⟩ := hrel
      have BB := hid hbel
      clear hbel
      have BX := hid (B5.out.trans (BB.out.mono B5.out.size))
      have TX := hid (T5.out.below BB.out T5.out.lt)
      rcases hsc with ⟨rfl, hsc⟩ | ⟨h0, hsc⟩
      · by_cases hlt : k < n
        · obtain ⟨p1, o1, x, y, rfl, _, hpq, hc⟩ := cells_at RDS.out TW2.out HN.out.symm hlt
          have HC := hid hc
          rw [g_drop hpq, scan] at hsc
          simp only [List.getD_cons_zero, List.getD_cons_succ] at hsc
          have SC := hid hsc
          have wk1 : IntKind.i64.wrap ((k : Int) + 1) = k + 1 := IntWalk.i64_in _ (by omega)
          have wk2 : IntKind.i64.wrap (row + 1) = row + 1 := IntWalk.i64_in _ (by omega)
          clear hc hpq hsc
          go_upto_region 14 with fail
          refine wp_region_hand (fun w' => Blk w' (w.heap.size + 1) 36 #[.string f.nm, .int .i64 f.bs, .int .i64 f.bt, .int .i64 f.mo, .int .i64 f.mt, .int .i64 f.ca, .slice f.ra f.rn f.rc, .int .i64 f.pr, .string t.nm, .int .i64 t.bs, .int .i64 t.bt, .int .i64 t.mo, .int .i64 t.mt, .int .i64 t.ca, .slice t.ra t.rn t.rc, .int .i64 t.pr, .int .i64 H, .int .i64 (n : Int), .int .i64 S] ∧ Below w5.heap.size w5 w') (by kernel_rfl) ?_
          simp only [List.length_cons, List.length_nil, Nat.zero_add, Nat.reduceAdd]
          have hS : Blk wr.drew (w.heap.size + 1) 36 #[.string f.nm, .int .i64 f.bs, .int .i64 f.bt, .int .i64 f.mo, .int .i64 f.mt, .int .i64 f.ca, .slice f.ra f.rn f.rc, .int .i64 f.pr, .string t.nm, .int .i64 t.bs, .int .i64 t.bt, .int .i64 t.mo, .int .i64 t.mt, .int .i64 t.ca, .slice t.ra t.rn t.rc, .int .i64 t.pr, .int .i64 H, .int .i64 (n : Int), .int .i64 S] ∧ Below w5.heap.size w5 wr.drew := ⟨Blk.drew (T5.out.below BB.out T5.out.lt), Below.drew BB.out⟩
          refine take_at (i := 0) (v := ?_) rfl rfl (by kernel_rfl) (by kernel_rfl) (by kernel_rfl) (fun _ _ _ h => h) (Or.inl ⟨by rfl, ?_⟩) hS ?_
          rotate_left
          · intro w hSw; (try dsimp only at hSw); go_simp; try with_reducible rfl
          try simp only [List.setIfInBounds_toArray, List.set_cons_zero, List.set_cons_succ]
          refine take_at (i := 1) (v := .agg #[.string t.nm, .int .i64 t.bs, .int .i64 t.bt, .int .i64 t.mo, .int .i64 t.mt, .int .i64 t.ca, .slice t.ra t.rn t.rc, .int .i64 t.pr]) rfl rfl (by kernel_rfl) (by kernel_rfl) (by kernel_rfl) (fun _ _ _ h => h) (Or.inl ⟨by rfl, fun wi hSw => exec_loads (p := .pointer (some ⟨w.heap.size + 1, 8, none⟩)) rfl rfl (load_part (l := #[.string t.nm, .int .i64 t.bs, .int .i64 t.bt, .int .i64 t.mo, .int .i64 t.mt, .int .i64 t.ca, .slice t.ra t.rn t.rc, .int .i64 t.pr]) hSw.1 (by intro j v hj; match j, hj with | 0, hj => (simpa using hj) | 1, hj => (simpa using hj) | 2, hj => (simpa using hj) | 3, hj => (simpa using hj) | 4, hj => (simpa using hj) | 5, hj => (simpa using hj) | 6, hj => (simpa using hj) | 7, hj => (simpa using hj) | j + 8, hj => simp at hj) Try.underlying32 rfl (by kernel_rfl))⟩) hS ?_
          try simp only [List.setIfInBounds_toArray, List.set_cons_zero, List.set_cons_succ]
          refine take_at (i := 2) (v := ?_) rfl rfl (by kernel_rfl) (by kernel_rfl) (by kernel_rfl) (fun _ _ _ h => h) (Or.inl ⟨by rfl, ?_⟩) hS ?_
          rotate_left
          · intro w hSw; (try dsimp only at hSw); go_simp; try with_reducible rfl
          try simp only [List.setIfInBounds_toArray, List.set_cons_zero, List.set_cons_succ]
          refine take_at (i := 3) (v := ?_) rfl rfl (by kernel_rfl) (by kernel_rfl) (by kernel_rfl) (fun _ _ _ h => h) (Or.inl ⟨by rfl, ?_⟩) hS ?_
          rotate_left
          · intro w hSw; (try dsimp only at hSw); go_simp; try with_reducible rfl
          try simp only [List.setIfInBounds_toArray, List.set_cons_zero, List.set_cons_succ]
          refine take_at (i := 4) (v := ?_) rfl rfl (by kernel_rfl) (by kernel_rfl) (by kernel_rfl) (fun _ _ _ h => h) (Or.inl ⟨by rfl, ?_⟩) hS ?_
          rotate_left
          · intro w hSw; (try dsimp only at hSw); go_simp; try with_reducible rfl
          try simp only [List.setIfInBounds_toArray, List.set_cons_zero, List.set_cons_succ]
          refine take_at (i := 5) (v := .agg #[.int .i64 x, .int .i64 y]) rfl rfl (by kernel_rfl) (by kernel_rfl) (by kernel_rfl) (fun _ _ _ h => h) (Or.inl ⟨by rfl, fun wi hSw => exec_loads (p := .pointer (some ⟨p1, o1 + k * 2, none⟩)) rfl rfl (load_two (HC.out _ hSw.2).1 (HC.out _ hSw.2).2 Try.underlying60 rfl (by kernel_rfl))⟩) hS ?_
          try simp only [List.setIfInBounds_toArray, List.set_cons_zero, List.set_cons_succ]
          refine wpAnyH_ready (rs := [6]) (by kernel_rfl) (by simp) ?_
          refine AllReadyH.cons rfl (fun K hK => ?_) AllReadyH.nil
          go_simp
          (go_at_call 24; refine (meets_any t x y _).mono ?_; rintro e w6 ⟨rfl, hb⟩; have HB := hid (show Below wr.heap.size wr w6 from by first | exact hb | exact (Below.drew (Below.refl _ _)).trans hb); have BB6 := hid (BB.out.trans (HB.out.mono BB.out.size)); have T6 := hid (T5.out.below BB6.out T5.out.lt); clear hb HB)
          refine hK.out _ _ ⟨T6.out, BB6.out⟩ (fun hS => ?_)
          clear hK K
          try simp only [Act.put, List.setIfInBounds_toArray, List.set_cons_zero, List.set_cons_succ]
          have c6 := T6.out.cell
          by_cases hm : meetB t x y = true
          · rw [hm]
            have SD := hid (by have := SC.out; rw [if_pos hm] at this; exact this)
            clear hm
            refine take_at (i := 7) (v := ?_) rfl rfl (by kernel_rfl) (by kernel_rfl) (by kernel_rfl) (fun _ _ _ h => h) (Or.inl ⟨by rfl, ?_⟩) hS ?_
            rotate_left
            · intro w hSw; (try dsimp only at hSw); go_simp; try with_reducible rfl
            try simp only [List.setIfInBounds_toArray, List.set_cons_zero, List.set_cons_succ]
            refine wpAnyH_done (by kernel_rfl) ?_ _
            simp only [Sure, Exit.then]
            clear hS
            try simp only [Exit.inBlock, Exit.then]
            by_cases hh : H ≤ row + 1
            · have SE := hid (by have := SD.out; rw [if_pos hh] at this; exact this)
              go_wp2
              go_roundw
              case rel => exact ⟨k + 1, row + 1, (k : Int) + 1, by omega, by go_num, rfl, rfl, by omega, .inr ⟨by omega, SE.out⟩, BB6.out⟩
              case measure => simp [intOf]; omega
            · have SE := hid (by have := SD.out; rw [if_neg hh] at this; exact this)
              go_wp2
              go_roundw
              case rel => exact ⟨k + 1, row + 1, 0, by omega, by go_num, rfl, rfl, by omega, .inl ⟨rfl, by have := SE.out; simpa using this⟩, BB6.out⟩
              case measure => simp [intOf]; omega
          · have hm2 : meetB t x y = false := by simpa using hm
            rw [hm2]
            have SD := hid (by have := SC.out; rw [if_neg hm] at this; exact this)
            clear hm hm2
            refine take_at (i := 7) (v := ?_) rfl rfl (by kernel_rfl) (by kernel_rfl) (by kernel_rfl) (fun _ _ _ h => h) (Or.inl ⟨by rfl, ?_⟩) hS ?_
            rotate_left
            · intro w hSw; (try dsimp only at hSw); go_simp; try with_reducible rfl
            try simp only [List.setIfInBounds_toArray, List.set_cons_zero, List.set_cons_succ]
            refine wpAnyH_done (by kernel_rfl) ?_ _
            simp only [Sure, Exit.then]
            clear hS
            try simp only [Exit.inBlock, Exit.then]
            have hh : ¬ (H ≤ 0) := by omega
            have SE := hid (by have := SD.out; rw [if_neg hh] at this; exact this)
            go_wp2
            go_roundw
            case rel => exact ⟨k + 1, 0, 0, by omega, by go_num, rfl, rfl, by omega, .inl ⟨rfl, by have := SE.out; simpa using this⟩, BB6.out⟩
            case measure => simp [intOf]; omega
        · obtain rfl : n = k := by omega
          have SZ : scan t H 0 0 l = 0 := by rw [← hsc, List.drop_eq_nil_of_le (by have := HN.out; omega)]; rfl
          clear hsc
          have := SC0.out
          have hq := SE0.out
          rw [SZ] at hq this
          subst this
          clear SZ SC0
          clear hq SE0
          go_wp2_with fail
          refine (awake_any _).mono ?_
          rintro e wz ⟨rfl, hb⟩
          go_wp2
          go_ret
          exact ⟨rfl, BX.out.trans (hb.mono BX.out.size)⟩
      · have hq := SE0.out
        have hv := SC0.out
        rw [← hsc] at hq hv
        subst hv
        clear hsc SC0 SE0
        exact absurd (hq.2 (by omega)) (by decide)
theorem changeSettled_walk (x0 : Int) (x1 : Int) (x2 : Int) (x3 : Int) (x4 : Int) (x5 : Int) (x6 : Int) (x7 : Int) (x8 : Int) (x9 : Int) (x10 : Int) (x11 : Int) (x12 : Int) (x13 : Int) (x14 : Int) (x15 : Int) (x16 : Int) (x17 : Int) (x18 : Int) (x19 : ByteArray) (x20 : Int) (x21 : Int) (x22 : Int) (x23 : Int) (x24 : Int) (a25 : Option Addr) (c25 : Nat) (x25 : List Int) (x26 : Int) (x27 : ByteArray) (x28 : Int) (x29 : Int) (x30 : Int) (x31 : Int) (x32 : Int) (a33 : Option Addr) (c33 : Nat) (x33 : List Int) (x34 : Int) (x35 : Int) (x36 : Int) (x37 : Int) (w : World) (_h0 : (Lit.int .i64 x0).wf = true) (_h1 : (Lit.int .i64 x1).wf = true) (_h2 : (Lit.int .i64 x2).wf = true) (_h3 : (Lit.int .i64 x3).wf = true) (_h4 : (Lit.int .i64 x4).wf = true) (_h5 : (Lit.int .i64 x5).wf = true) (_h6 : (Lit.int .i64 x6).wf = true) (_h7 : (Lit.int .i64 x7).wf = true) (_h8 : (Lit.int .i64 x8).wf = true) (_h9 : (Lit.int .i64 x9).wf = true) (_h10 : (Lit.int .i64 x10).wf = true) (_h11 : (Lit.int .i64 x11).wf = true) (_h12 : (Lit.int .i64 x12).wf = true) (_h13 : (Lit.int .i64 x13).wf = true) (_h14 : (Lit.int .i64 x14).wf = true) (_h15 : (Lit.int .i64 x15).wf = true) (_h16 : (Lit.int .i64 x16).wf = true) (_h17 : (Lit.int .i64 x17).wf = true) (_h18 : (Lit.int .i64 x18).wf = true) (h19 : x19.size ≤ maxLen) (_h20 : (Lit.int .i64 x20).wf = true) (_h21 : (Lit.int .i64 x21).wf = true) (_h22 : (Lit.int .i64 x22).wf = true) (_h23 : (Lit.int .i64 x23).wf = true) (_h24 : (Lit.int .i64 x24).wf = true) (_h25 : Rds Nn w 1 a25 x25.length (ints x25)) (g25 : x25.length ≤ c25 ∧ c25 ≤ maxLen ∧ (a25 = none → x25.length = 0 ∧ c25 = 0)) (_i25 : ∀ n ∈ x25, (Lit.int .i64 n).wf = true) (_h26 : (Lit.int .i64 x26).wf = true) (h27 : x27.size ≤ maxLen) (_h28 : (Lit.int .i64 x28).wf = true) (_h29 : (Lit.int .i64 x29).wf = true) (_h30 : (Lit.int .i64 x30).wf = true) (_h31 : (Lit.int .i64 x31).wf = true) (_h32 : (Lit.int .i64 x32).wf = true) (_h33 : Rds Nn w 1 a33 x33.length (ints x33)) (g33 : x33.length ≤ c33 ∧ c33 ≤ maxLen ∧ (a33 = none → x33.length = 0 ∧ c33 = 0)) (_i33 : ∀ n ∈ x33, (Lit.int .i64 n).wf = true) (_h34 : (Lit.int .i64 x34).wf = true) (_h35 : (Lit.int .i64 x35).wf = true) (_h36 : (Lit.int .i64 x36).wf = true) (_h37 : (Lit.int .i64 x37).wf = true) :
    Calls Try.prog 6 #[.agg #[.int .i64 x0, .int .i64 x1, .int .i64 x2, .int .i64 x3, .int .i64 x4, .int .i64 x5, .int .i64 x6, .int .i64 x7, .int .i64 x8, .int .i64 x9, .int .i64 x10, .int .i64 x11, .int .i64 x12, .int .i64 x13, .int .i64 x14, .int .i64 x15, .int .i64 x16, .int .i64 x17, .int .i64 x18], .agg #[.string x19, .int .i64 x20, .int .i64 x21, .int .i64 x22, .int .i64 x23, .int .i64 x24, .slice a25 x25.length c25, .int .i64 x26, .string x27, .int .i64 x28, .int .i64 x29, .int .i64 x30, .int .i64 x31, .int .i64 x32, .slice a33 x33.length c33, .int .i64 x34, .int .i64 x35, .int .i64 x36, .int .i64 x37]] w fun e w' => e = .returned (.bool true) ∧ Below w.heap.size w w' := by
  exact changeSettled_in ⟨x0, x1, x2, x3, x4, x5, x6, x7, x8⟩ ⟨x9, x10, x11, x12, x13, x14, x15, x16, x17⟩ x18 ⟨x19, x20, x21, x22, x23, x24, a25, _, c25, x26⟩ ⟨x27, x28, x29, x30, x31, x32, a33, _, c33, x34⟩ x35 x36 x37 w ⟨Nat.le_trans g25.1 g25.2.1, h19⟩ ⟨Nat.le_trans g33.1 g33.2.1, h27⟩
end Go.Proofs.Ytddphdkhaaolmaa
