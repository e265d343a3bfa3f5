/- Chapter 32: Path of both. -/
import Derived.Test.YtddphdkhaaolmaaG1
import Derived.Test.YtddphdkhaaolmaaG2
namespace Go.Proofs.Ytddphdkhaaolmaa
open Go.RowKit

/-- Is all permitted in a path? -/
def okPath (f t : GR) (n : Int) : Prop := fitB f = true ∧ fitB t = true ∧ 0 ≤ n ∧ n ≤ 512
instance (f t : GR) (n : Int) : Decidable (okPath f t n) := by unfold okPath; infer_instance
/-- What Path returns. -/
def PSpec (b m : CP) (cp : Int) (f t : GR) (n er : Int) (rows : List (List Int)) : Prop :=
  (chkW b m cp ≠ 0 → er = chkW b m cp ∧ rows = []) ∧ (chkW b m cp = 0 → ¬ okPath f t n → er = 1 ∧ rows = []) ∧
  (chkW b m cp = 0 → okPath f t n → ∃ oB oM vB vM, RestSpec b m cp f.bs f.mo oB oM vB vM 0 ∧ er = wErr b m cp oB oM vB vM (List.replicate n.toNat [t.bs, t.mo]) (List.replicate n.toNat [(0 : Int), 0]) ∧ rows = wRows b m cp oB oM vB vM (List.replicate n.toNat [t.bs, t.mo]) (List.replicate n.toNat [(0 : Int), 0]))
theorem path_same {b m : CP} {cp : Int} {f t : GR} {n er er' : Int} {rows rows' : List (List Int)} (h : PSpec b m cp f t n er rows) (k : PSpec b m cp f t n er' rows') : er = er' ∧ rows = rows' := by
  obtain ⟨h1, h2, h3⟩ := h
  obtain ⟨k1, k2, k3⟩ := k
  by_cases hc : chkW b m cp = 0
  · by_cases ho : okPath f t n
    · obtain ⟨oB, oM, vB, vM, hr, rfl, rfl⟩ := h3 hc ho
      obtain ⟨oB', oM', vB', vM', kr, rfl, rfl⟩ := k3 hc ho
      obtain ⟨rfl, rfl, rfl, rfl, _⟩ := rest_same hr kr
      exact ⟨rfl, rfl⟩
    · obtain ⟨rfl, rfl⟩ := h2 hc ho
      obtain ⟨rfl, rfl⟩ := k2 hc ho
      exact ⟨rfl, rfl⟩
  · obtain ⟨rfl, rfl⟩ := h1 hc
    obtain ⟨rfl, rfl⟩ := k1 hc
    exact ⟨rfl, rfl⟩
def PathPost (b m : CP) (cp : Int) (f t : GR) (n : Int) (w : World) : Ending → World → Prop := fun e w' => ∃ A c er rows, e = .returned (.tuple #[.slice A rows.length c, .int .i64 er]) ∧ PSpec b m cp f t n er rows ∧ Rds Nn w' 2 A rows.length (ints rows.flatten) ∧ (∀ r ∈ rows, r.length = 2) ∧ (rows.length ≤ c ∧ rows.length ≤ 1000000) ∧ Below w.heap.size w w'
section
variable {b m : CP} {cp n : Int} {f t : GR} {w w' : World}
theorem path_c (h : chkW b m cp ≠ 0) (hb : Below w.heap.size w w') : PathPost b m cp f t n w (.returned (.tuple #[.slice none 0 0, .int .i64 (chkW b m cp)])) w' :=
  ⟨none, 0, _, [], rfl, ⟨fun _ => ⟨rfl, rfl⟩, fun e => absurd e h, fun e => absurd e h⟩, Rds.nil _ _ _ _, by simp, by simp, hb⟩
theorem path_1 (h : chkW b m cp = 0) (ho : ¬ okPath f t n) (hb : Below w.heap.size w w') : PathPost b m cp f t n w (.returned (.tuple #[.slice none 0 0, .int .i64 1])) w' :=
  ⟨none, 0, _, [], rfl, ⟨fun e => absurd h e, fun _ _ => ⟨rfl, rfl⟩, fun _ e => absurd e ho⟩, Rds.nil _ _ _ _, by simp, by simp, hb⟩
theorem rep_two (k : Nat) (x y : Int) : ∀ r ∈ List.replicate k [x, y], r.length = 2 := fun r hr => by rw [(List.mem_replicate.1 hr).2]; rfl
theorem path_ok {oB oM vB vM : Int} {N : Nat} {u : Value} {g : Nat} (hN : n = (N : Int)) (h : chkW b m cp = 0) (ho : okPath f t n) (hr : RestSpec b m cp f.bs f.mo oB oM vB vM 0) (hu : w'.ownsRow g 60 2 u (wRows b m cp oB oM vB vM (List.replicate N [t.bs, t.mo]) (List.replicate N [0, 0])).length (ints (wRows b m cp oB oM vB vM (List.replicate N [t.bs, t.mo]) (List.replicate N [0, 0])).flatten)) (hb : Below w.heap.size w w') : PathPost b m cp f t n w (.returned (.tuple #[u, .int .i64 (wErr b m cp oB oM vB vM (List.replicate N [t.bs, t.mo]) (List.replicate N [0, 0]))])) w' := by
  subst hN
  obtain ⟨A, c, rfl, hcap, _⟩ := own_form hu
  have h5 : N ≤ 512 := by have := ho.2.2.2; omega
  refine ⟨A, c, _, _, rfl, ⟨fun e => absurd h e, fun _ e => absurd ho e, fun _ _ => ⟨oB, oM, vB, vM, hr, rfl, rfl⟩⟩, Rds.own hu (fun _ _ => id), wRows_two, ⟨hcap, wRows_len (by simp; omega)⟩, hb⟩
theorem rest_er {x y oB oM vB vM er : Int} (h : RestSpec b m cp x y oB oM vB vM er) (hc : chkW b m cp = 0) (h1 : 0 ≤ x ∧ x ≤ 1000000) (h2 : 0 ≤ y ∧ y ≤ 2000) : er = 0 := (h.2.2.2 hc ⟨absB_mk (by omega) (by omega), absB_mk (by omega) (by omega)⟩).1
end
set_option linter.unusedSimpArgs false in
set_option maxRecDepth 100000 in
set_option maxHeartbeats 16000000 in
theorem rpath_any (b m : CP) (cp : Int) (f t : GR) (n : Int) (w : World) : Calls Try.prog 13 #[.agg #[.int .i64 b.kp, .int .i64 b.ki, .int .i64 b.sh, .int .i64 b.lo, .int .i64 b.hi, .int .i64 b.rate, .int .i64 b.ga, .int .i64 b.la, .int .i64 b.de, .int .i64 m.kp, .int .i64 m.ki, .int .i64 m.sh, .int .i64 m.lo, .int .i64 m.hi, .int .i64 m.rate, .int .i64 m.ga, .int .i64 m.la, .int .i64 m.de, .int .i64 cp], .agg #[.string f.nm, .int .i64 f.bs, .int .i64 f.bt, .int .i64 f.mo, .int .i64 f.mt, .int .i64 f.ca, .slice f.ra f.rn f.rc, .int .i64 f.pr], .agg #[.string t.nm, .int .i64 t.bs, .int .i64 t.bt, .int .i64 t.mo, .int .i64 t.mt, .int .i64 t.ca, .slice t.ra t.rn t.rc, .int .i64 t.pr], .int .i64 n] w (PathPost b m cp f t n w) := by
  have W0 := hid (Blk.alloc (Blk.alloc (Blk.at_new w (b := w.heap.size) (t := 29) (cs := #[.int .i64 b.kp, .int .i64 b.ki, .int .i64 b.sh, .int .i64 b.lo, .int .i64 b.hi, .int .i64 b.rate, .int .i64 b.ga, .int .i64 b.la, .int .i64 b.de, .int .i64 m.kp, .int .i64 m.ki, .int .i64 m.sh, .int .i64 m.lo, .int .i64 m.hi, .int .i64 m.rate, .int .i64 m.ga, .int .i64 m.la, .int .i64 m.de, .int .i64 cp]) rfl) (.cells #[.string f.nm, .int .i64 f.bs, .int .i64 f.bt, .int .i64 f.mo, .int .i64 f.mt, .int .i64 f.ca, .slice f.ra f.rn f.rc, .int .i64 f.pr] 32)) (.cells #[.string t.nm, .int .i64 t.bs, .int .i64 t.bt, .int .i64 t.mo, .int .i64 t.mt, .int .i64 t.ca, .slice t.ra t.rn t.rc, .int .i64 t.pr] 32))
  have F0 := hid (Blk.alloc (Blk.at_new (w.alloc (.cells #[.int .i64 b.kp, .int .i64 b.ki, .int .i64 b.sh, .int .i64 b.lo, .int .i64 b.hi, .int .i64 b.rate, .int .i64 b.ga, .int .i64 b.la, .int .i64 b.de, .int .i64 m.kp, .int .i64 m.ki, .int .i64 m.sh, .int .i64 m.lo, .int .i64 m.hi, .int .i64 m.rate, .int .i64 m.ga, .int .i64 m.la, .int .i64 m.de, .int .i64 cp] 29)) (b := w.heap.size + 1) (t := 32) (cs := #[.string f.nm, .int .i64 f.bs, .int .i64 f.bt, .int .i64 f.mo, .int .i64 f.mt, .int .i64 f.ca, .slice f.ra f.rn f.rc, .int .i64 f.pr]) (by simp)) (.cells #[.string t.nm, .int .i64 t.bs, .int .i64 t.bt, .int .i64 t.mo, .int .i64 t.mt, .int .i64 t.ca, .slice t.ra t.rn t.rc, .int .i64 t.pr] 32))
  have T0 := hid (Blk.at_new ((w.alloc (.cells #[.int .i64 b.kp, .int .i64 b.ki, .int .i64 b.sh, .int .i64 b.lo, .int .i64 b.hi, .int .i64 b.rate, .int .i64 b.ga, .int .i64 b.la, .int .i64 b.de, .int .i64 m.kp, .int .i64 m.ki, .int .i64 m.sh, .int .i64 m.lo, .int .i64 m.hi, .int .i64 m.rate, .int .i64 m.ga, .int .i64 m.la, .int .i64 m.de, .int .i64 cp] 29)).alloc (.cells #[.string f.nm, .int .i64 f.bs, .int .i64 f.bt, .int .i64 f.mo, .int .i64 f.mt, .int .i64 f.ca, .slice f.ra f.rn f.rc, .int .i64 f.pr] 32)) (b := w.heap.size + 1 + 1) (t := 32) (cs := #[.string t.nm, .int .i64 t.bs, .int .i64 t.bt, .int .i64 t.mo, .int .i64 t.mt, .int .i64 t.ca, .slice t.ra t.rn t.rc, .int .i64 t.pr]) (by simp))
  have B0 := hid ((((Below.refl w.heap.size w).alloc (Nat.le_refl _) (.cells #[.int .i64 b.kp, .int .i64 b.ki, .int .i64 b.sh, .int .i64 b.lo, .int .i64 b.hi, .int .i64 b.rate, .int .i64 b.ga, .int .i64 b.la, .int .i64 b.de, .int .i64 m.kp, .int .i64 m.ki, .int .i64 m.sh, .int .i64 m.lo, .int .i64 m.hi, .int .i64 m.rate, .int .i64 m.ga, .int .i64 m.la, .int .i64 m.de, .int .i64 cp] 29)).alloc (by simp) (.cells #[.string f.nm, .int .i64 f.bs, .int .i64 f.bt, .int .i64 f.mo, .int .i64 f.mt, .int .i64 f.ca, .slice f.ra f.rn f.rc, .int .i64 f.pr] 32)).alloc (by simp <;> omega) (.cells #[.string t.nm, .int .i64 t.bs, .int .i64 t.bt, .int .i64 t.mo, .int .i64 t.mt, .int .i64 t.ca, .slice t.ra t.rn t.rc, .int .i64 t.pr] 32))
  go_enter Try.func13, Try.ntmps13
  go_wp2_with (refine wpList_load_blk2 (t := 29) rfl rfl rfl Try.underlying29 rfl (by kernel_rfl) W0.out ?_)
  refine (rwcheck_any b m cp _).mono ?_
  rintro e w1 ⟨rfl, hb⟩
  have B1 := hid (B0.out.trans (hb.mono B0.out.size))
  have W1 := hid (W0.out.below hb W0.out.lt)
  have F1 := hid (F0.out.below hb F0.out.lt)
  have T1 := hid (T0.out.below hb T0.out.lt)
  clear hb
  by_cases hc : chkW b m cp = 0
  rotate_left
  · have hz2 : (chkW b m cp != 0) = true := by simpa using hc
    have HC := hid hc
    clear hc
    go_wp2
    go_ret2
    exact path_c HC.out B1.out
  rw [hc]
  have HC := hid hc
  clear hc
  go_wp2_with (refine wpList_load_blk2 (t := 32) rfl rfl rfl Try.underlying32 rfl (by kernel_rfl) F1.out ?_)
  refine (fits_any f _).mono ?_
  rintro e w2 ⟨rfl, hb⟩
  have B2 := hid (B1.out.trans (hb.mono B1.out.size))
  have W2 := hid (W1.out.below hb W1.out.lt)
  have F2 := hid (F1.out.below hb F1.out.lt)
  have T2 := hid (T1.out.below hb T1.out.lt)
  clear hb
  by_cases hf : fitB f = true
  rotate_left
  · have hf2 : fitB f = false := by simpa using hf
    rw [hf2]
    have HF := hid hf
    clear hf hf2
    go_wp2
    go_ret2
    exact path_1 HC.out (fun e => HF.out e.1) B2.out
  rw [hf]
  have HF := hid hf
  clear hf
  have ct := T2.out.cell
  go_wp2_with fail
  refine (fits_any t _).mono ?_
  rintro e w3 ⟨rfl, hb⟩
  have B3 := hid (B2.out.trans (hb.mono B2.out.size))
  have W3 := hid (W2.out.below hb W2.out.lt)
  have F3 := hid (F2.out.below hb F2.out.lt)
  have T3 := hid (T2.out.below hb T2.out.lt)
  clear hb
  clear ct
  by_cases ht : fitB t = true
  rotate_left
  · have ht2 : fitB t = false := by simpa using ht
    rw [ht2]
    have HT := hid ht
    clear ht ht2
    go_wp2
    go_ret2
    exact path_1 HC.out (fun e => HT.out e.2.1) B3.out
  rw [ht]
  have HT := hid ht
  clear ht
  by_cases hn0 : 0 ≤ n
  rotate_left
  · have HN0 := hid hn0
    have hn1 : n < 0 := by omega
    go_wp2
    go_ret2
    exact path_1 HC.out (fun e => by have := HN0.out; have := e.2.2.1; omega) B3.out
  by_cases hn5 : n ≤ 512
  rotate_left
  · have HN5 := hid hn5
    have hn1 : 512 < n := by omega
    have hn2 : ¬ (n < 0) := by omega
    go_wp2
    go_ret2
    exact path_1 HC.out (fun e => by have := HN5.out; have := e.2.2.2; omega) B3.out
  obtain ⟨N, rfl⟩ := Int.eq_ofNat_of_zero_le hn0
  have OK : Hid (okPath f t (N : Int)) := hid ⟨HF.out, HT.out, by omega, hn5⟩
  have hN5 : N ≤ 512 := by omega
  have cw := W3.out.cell
  have cf := F3.out.cell
  go_wp2_with (refine wpList_load_blk2 (t := 29) rfl rfl rfl Try.underlying29 rfl (by kernel_rfl) W3.out ?_)
  refine (rwrests_any b m cp f.bs f.mo _).mono ?_
  rintro e w4 ⟨oB, oM, vB, vM, er, rfl, hrs, hb⟩
  obtain rfl := rest_er hrs HC.out (by have := fit_yes HF.out; omega) (by have := fit_yes HF.out; omega)
  have RS := hid hrs
  clear hrs cw cf
  have B4 := hid (B3.out.trans (hb.mono B3.out.size))
  have W4 := hid (W3.out.below hb W3.out.lt)
  have F4 := hid (F3.out.below hb F3.out.lt)
  have T4 := hid (T3.out.below hb T3.out.lt)
  clear hb
  have S4 := hid (Blk.at_new w4 (b := w4.heap.size) (t := 76) (cs := #[.int .i64 oB, .int .i64 oM, .int .i64 vB, .int .i64 vM]) rfl)
  have W5 := hid (Blk.alloc W4.out (.cells #[.int .i64 oB, .int .i64 oM, .int .i64 vB, .int .i64 vM] 76))
  have T5 := hid (Blk.alloc T4.out (.cells #[.int .i64 oB, .int .i64 oM, .int .i64 vB, .int .i64 vM] 76))
  have B5 := hid (B4.out.alloc B4.out.size (.cells #[.int .i64 oB, .int .i64 oM, .int .i64 vB, .int .i64 vM] 76))
  clear W0 F0 T0 W1 F1 T1 W2 F2 T2 W3 F3 T3 W4 F4 T4
  go_wp2
  generalize w4.alloc (.cells #[.int .i64 oB, .int .i64 oM, .int .i64 vB, .int .i64 vM] 76) = w5 at *
  go_loopw [13, 14] (fun u i wr => ∃ k : Nat, k ≤ N ∧ i = .int .i64 k ∧ wr.ownsRow w5.heap.size 60 2 u k (ints (List.replicate k [t.bs, t.mo]).flatten) ∧ Below w5.heap.size w5 wr) (fun _ i _ => N - (intOf i).toNat)
  case atStart => exact ⟨0, Nat.zero_le _, rfl, own_nil _ _ _ _, Below.refl _ _⟩
  case round =>
    obtain ⟨k, hk, rfl, hown, hbel⟩ := hrel
    have OW := hid hown
    have BB := hid hbel
    obtain ⟨Ao, co, rfl, _, _⟩ := own_form hown
    clear hown hbel
    have TR := hid (T5.out.below BB.out T5.out.lt)
    by_cases hlt : k < N
    · have wk1 : IntKind.i64.wrap ((k : Int) + 1) = k + 1 := IntWalk.i64_in _ (by omega)
      have cr := TR.out.cell
      go_wp2_with (at_builtin; refine wpList_app (n := k) (m := 1) (news := [.int .i64 t.bs, .int .i64 t.mo]) infoR Try.underlying39 (by kernel_rfl) (by omega) (by omega) (own_keep (own_base_le OW.out (Nat.zero_le _)) ((Chg.refl Nn _).alloc _) (fun _ _ => id)) (Rds.pairAt _ _ _ _ _ rfl) (by intro u hu; simp at hu; rcases hu with rfl | rfl <;> rfl) (by omega) rfl rfl rfl rfl ?_; intro v6 w6 hown hchg hnew; obtain ⟨A6, c6, rfl, _, _⟩ := own_form hown; have NR : Hid (∀ g, Rw (.slice Ao k co) g → w5.heap.size ≤ g) := hid (fun g hg => (own_blk OW.out g hg).1); have A5 := hid (Below.alloc BB.out BB.out.size (.cells #[.int .i64 t.bs, .int .i64 t.mo] 60)); have B6 := hid (hchg.then_below A5.out (fun j hj hf => by have h1 := NR.out j hf; omega) A5.out.size); have O6 := hid (own_rebase hown (base' := w5.heap.size) (fun g hg => (hnew g hg).elim (fun h => NR.out g h) (fun h => Nat.le_trans A5.out.size h))); clear hown hchg hnew)
      go_roundw
      case rel => exact ⟨k + 1, by omega, by go_num, by have := O6.out; rw [List.replicate_succ', List.flatten_append]; simpa [ints] using this, B6.out⟩
      case measure => simp [intOf]; omega
    · obtain rfl : N = k := by omega
      have WR := hid (W5.out.below BB.out W5.out.lt)
      have SR := hid (S4.out.below BB.out S4.out.lt)
      have hNi : ((N : Int) ≤ 9223372036854775807) := by omega
      go_upto_region 12 with fail
      refine wp_region_hand (fun w' => Blk w' w.heap.size 29 #[.int .i64 b.kp, .int .i64 b.ki, .int .i64 b.sh, .int .i64 b.lo, .int .i64 b.hi, .int .i64 b.rate, .int .i64 b.ga, .int .i64 b.la, .int .i64 b.de, .int .i64 m.kp, .int .i64 m.ki, .int .i64 m.sh, .int .i64 m.lo, .int .i64 m.hi, .int .i64 m.rate, .int .i64 m.ga, .int .i64 m.la, .int .i64 m.de, .int .i64 cp] ∧ Blk w' w4.heap.size 76 #[.int .i64 oB, .int .i64 oM, .int .i64 vB, .int .i64 vM]) (by kernel_rfl) ?_
      simp only [List.length_cons, List.length_nil, Nat.zero_add, Nat.reduceAdd]
      have hS : Blk wr.drew w.heap.size 29 #[.int .i64 b.kp, .int .i64 b.ki, .int .i64 b.sh, .int .i64 b.lo, .int .i64 b.hi, .int .i64 b.rate, .int .i64 b.ga, .int .i64 b.la, .int .i64 b.de, .int .i64 m.kp, .int .i64 m.ki, .int .i64 m.sh, .int .i64 m.lo, .int .i64 m.hi, .int .i64 m.rate, .int .i64 m.ga, .int .i64 m.la, .int .i64 m.de, .int .i64 cp] ∧ Blk wr.drew w4.heap.size 76 #[.int .i64 oB, .int .i64 oM, .int .i64 vB, .int .i64 vM] := ⟨WR.out, SR.out⟩
      refine take_at (i := 0) (v := .agg #[.int .i64 b.kp, .int .i64 b.ki, .int .i64 b.sh, .int .i64 b.lo, .int .i64 b.hi, .int .i64 b.rate, .int .i64 b.ga, .int .i64 b.la, .int .i64 b.de, .int .i64 m.kp, .int .i64 m.ki, .int .i64 m.sh, .int .i64 m.lo, .int .i64 m.hi, .int .i64 m.rate, .int .i64 m.ga, .int .i64 m.la, .int .i64 m.de, .int .i64 cp]) rfl rfl (by kernel_rfl) (by kernel_rfl) (by kernel_rfl) (fun _ _ _ h => h) (Or.inl ⟨by rfl, fun wi hSw => exec_loads (p := .pointer (some ⟨w.heap.size, 0, none⟩)) rfl rfl (load_blk hSw.1 Try.underlying29 rfl (by kernel_rfl))⟩) hS ?_
      try simp only [List.setIfInBounds_toArray, List.set_cons_zero, List.set_cons_succ]
      refine take_at (i := 1) (v := .agg #[.int .i64 oB, .int .i64 oM, .int .i64 vB, .int .i64 vM]) rfl rfl (by kernel_rfl) (by kernel_rfl) (by kernel_rfl) (fun _ _ _ h => h) (Or.inl ⟨by rfl, fun wi hSw => exec_loads (p := .pointer (some ⟨w4.heap.size, 0, none⟩)) rfl rfl (load_blk hSw.2 Try.underlying76 rfl (by kernel_rfl))⟩) hS ?_
      try simp only [List.setIfInBounds_toArray, List.set_cons_zero, List.set_cons_succ]
      refine take_at (i := 2) (v := ?_) rfl rfl (by kernel_rfl) (by kernel_rfl) (by kernel_rfl) (fun _ _ _ h => h) (Or.inl ⟨by rfl, ?_⟩) hS ?_
      rotate_left
      · intro w hSw; (try dsimp only at hSw); go_simp; try with_reducible rfl
      try simp only [List.setIfInBounds_toArray, List.set_cons_zero, List.set_cons_succ]
      refine take_at (i := 3) (v := ?_) rfl rfl (by kernel_rfl) (by kernel_rfl) (by kernel_rfl) (fun _ _ _ h => h) (Or.inl ⟨by rfl, ?_⟩) hS ?_
      rotate_left
      · intro w hSw; (try dsimp only at hSw); go_simp; try with_reducible rfl
      try simp only [List.setIfInBounds_toArray, List.set_cons_zero, List.set_cons_succ]
      refine wpAnyH_ready (rs := [4]) (by kernel_rfl) (by simp) ?_
      refine AllReadyH.cons rfl (fun K hK => ?_) AllReadyH.nil
      refine step_make Try.underlying39 infoR (n := N) (by omega) (by omega) rfl rfl rfl rfl ?_
      have Z4 := hid (zero_pairs wr.drew N 60)
      have D4 := hid (Below.alloc (Below.drew (Below.refl wr.heap.size wr)) (Nat.le_refl _) (.cells (madeCells (Value.agg #[.int .i64 0, .int .i64 0]).cells (N * 2)) 60))
      have W6 := hid (WR.out.below D4.out WR.out.lt)
      have S6 := hid (SR.out.below D4.out SR.out.lt)
      have O6 := hid (Rds.below (Rds.own OW.out (S := Nn) (fun _ _ => id)) D4.out)
      have B6 := hid (B5.out.trans ((BB.out.trans (D4.out.mono BB.out.size)).mono B5.out.size))
      refine hK.out _ _ ⟨W6.out, S6.out⟩ (fun hS => ?_)
      clear hK K
      try simp only [Act.put, List.setIfInBounds_toArray, List.set_cons_zero, List.set_cons_succ]
      refine wpAnyH_ready (rs := [5]) (by kernel_rfl) (by simp) ?_
      refine AllReadyH.cons rfl (fun K hK => ?_) AllReadyH.nil
      go_simp
      (go_at_call 36; refine (rwrun_any b m cp oB oM vB vM Ao (some ⟨wr.heap.size, 0, none⟩) co N N N (List.replicate N [t.bs, t.mo]) (List.replicate N [0, 0]) _ O6.out Z4.out (rep_two _ _ _) (rep_two _ _ _) (by simp) (by simp) (by omega) (by omega)).mono ?_; rintro e w9 ⟨u, rfl, hu, hb⟩; have RU := hid hu; have B9 := hid (B6.out.trans (hb.mono B6.out.size)); have W9 := hid (W6.out.below hb W6.out.lt); have S9 := hid (S6.out.below hb S6.out.lt); clear hu hb)
      refine hK.out _ _ ⟨W9.out, S9.out⟩ (fun hS => ?_)
      clear hK K
      try simp only [Act.put, List.setIfInBounds_toArray, List.set_cons_zero, List.set_cons_succ]
      refine take_at (i := 6) (v := ?_) rfl rfl (by kernel_rfl) (by kernel_rfl) (by kernel_rfl) (fun _ _ _ h => h) (Or.inl ⟨by rfl, ?_⟩) hS ?_
      rotate_left
      · intro w hSw; (try dsimp only at hSw); go_simp; try with_reducible rfl
      try simp only [List.setIfInBounds_toArray, List.set_cons_zero, List.set_cons_succ]
      refine take_at (i := 7) (v := ?_) rfl rfl (by kernel_rfl) (by kernel_rfl) (by kernel_rfl) (fun _ _ _ h => h) (Or.inl ⟨by rfl, ?_⟩) hS ?_
      rotate_left
      · intro w hSw; (try dsimp only at hSw); go_simp; try with_reducible rfl
      try simp only [List.setIfInBounds_toArray, List.set_cons_zero, List.set_cons_succ]
      refine take_at (i := 8) (v := ?_) rfl rfl (by kernel_rfl) (by kernel_rfl) (by kernel_rfl) (fun _ _ _ h => h) (Or.inl ⟨by rfl, ?_⟩) hS ?_
      rotate_left
      · intro w hSw; (try dsimp only at hSw); go_simp; try with_reducible rfl
      try simp only [List.setIfInBounds_toArray, List.set_cons_zero, List.set_cons_succ]
      refine take_at (i := 9) (v := ?_) rfl rfl (by kernel_rfl) (by kernel_rfl) (by kernel_rfl) (fun _ _ _ h => h) (Or.inl ⟨by rfl, ?_⟩) hS ?_
      rotate_left
      · intro w hSw; (try dsimp only at hSw); go_simp; try with_reducible rfl
      try simp only [List.setIfInBounds_toArray, List.set_cons_zero, List.set_cons_succ]
      refine wpAnyH_done (by kernel_rfl) ?_ _
      simp only [Sure, Exit.then]
      clear hS
      go_wp2
      go_ret2
      exact path_ok rfl HC.out OK.out RS.out RU.out B9.out
end Go.Proofs.Ytddphdkhaaolmaa
