/- Chapter 39: Trim of both. -/
import Derived.Test.YtccgbojcghbdcaaSl1
import Derived.Test.YtccgbojcghbdcaaSPn2
namespace Go.Proofs.Ytccgbojcghbdcaa
open Go.RowKit

theorem eqIn_nil0 {P : Program} (w : World) (d : Nat) (t e : TypeId) (l c : Nat) (h : P.underlying t = some (.slice e)) : (Op.equalIn (d + 1) t (.slice none l c) (.slice none 0 0)).run P w = .ok true w := by simp [Op.equalIn, run_underlying h]
theorem eql_nil0 {P : Program} (w : World) (t e : TypeId) (l c : Nat) (h : P.underlying t = some (.slice e)) : (binOp .eql t (.slice none l c) (.slice none 0 0)).run P w = .ok (.bool true) w := by
  have h2 : (Op.equal t (.slice none l c) (.slice none 0 0)).run P w = .ok true w := eqIn_nil0 w 9999 t e l c h
  simp [binOp, h2]
theorem own_drewN {w : World} {N : Nat} {e : TypeId} {sz n : Nat} {v : Value} {xs : List Value} (h : w.ownsRow N e sz v n xs) (k : Nat) : (w.drewN k).ownsRow N e sz v n xs := h
theorem Rds.allocS {S : Nat → Prop} {w : World} {sz n : Nat} {A : Option Addr} {xs : List Value} (h : Rds S w sz A n xs) (o : Obj) : Rds S (w.alloc o) sz A n xs := h.keep ((Chg.refl S _).alloc _)
/-- A row of strips in new memory. -/
def NewS (w w' : World) (u : Value) (L : List (List Int)) : Prop := w'.ownsRow w.heap.size 57 2 u L.length (ints L.flatten) ∧ Below w.heap.size w w'
set_option maxHeartbeats 1000000 in
theorem sclone_any (a : Option Addr) (c n : Nat) (l : List (List Int)) (w : World) (r : Rds Nn w 2 a n (ints l.flatten)) (hn : n = l.length) (hl : n ≤ 1000000) : Calls Try.prog 32 #[.slice a n c] w fun e w' => ∃ u, e = .returned u ∧ NewS w w' u l := by
  have R := hid r
  have N := hid hn
  clear hn
  cases a with
  | none =>
    have h0 : n = 0 := by
      rcases Nat.eq_zero_or_pos n with h | h
      · exact h
      · obtain ⟨p, o, hA, _⟩ := Rds.plain r h (by decide)
        cases hA
    subst h0
    have hq := eql_nil0 (P := Try.prog) w 22 57 0 c Try.underlying22
    have L0 : Hid (l = []) := hid (List.length_eq_zero_iff.1 N.out.symm)
    clear r
    go_enter Try.func32, Try.ntmps32
    go_wp2
    go_ret
    refine ⟨_, rfl, ?_, Below.refl _ _⟩
    rw [L0.out]
    exact own_nil _ _ _ _
  | some ad =>
    have hq := eql_nil (P := Try.prog) w 22 57 ad n c Try.underlying22
    clear r
    go_enter Try.func32, Try.ntmps32
    go_wp2_with (at_builtin; refine wpList_app infoS Try.underlying22 (by kernel_rfl) (by omega) (by omega) (own_empty w 0 (Nat.zero_le _) _ _) (R.out.allocS _) (ints_one _) (by omega) rfl rfl rfl rfl ?_; intro u6 w6 hown hchg hnew; have O6 := hid hown; have B6 := hid (chg_new hchg); have G6 := hid (newer_new hnew); clear hown hchg hnew)
    go_ret
    refine ⟨_, rfl, ?_, B6.out⟩
    have := own_rebase O6.out (base' := w.heap.size) (fun g hg => G6.out g hg)
    rw [Nat.zero_add, List.nil_append, N.out] at this
    exact this
def gaps : Int → List (List Int) → List (List Int)
  | _, [] => []
  | a, s :: l => (if a < s.getD 0 0 then [[a, s.getD 0 0 - a]] else []) ++ gaps (s.getD 0 0 + s.getD 1 0) l
theorem trims_gaps (W : Int) : ∀ (l : List (List Int)) (a : Int), trims W a l = gaps a (l ++ [[W, 0]])
  | [], a => by simp [trims, gaps]
  | s :: l, a => by
    simp only [trims, List.cons_append, gaps]
    rw [trims_gaps W l]
def TrPost (W : Int) (l : List (List Int)) (w : World) : Ending → World → Prop := fun e w' => ∃ A c, e = .returned (.tuple #[.slice A (trimL W l).length c, .int .i64 (slErr W l)]) ∧ Rds Nn w' 2 A (trimL W l).length (ints (trimL W l).flatten) ∧ Below w.heap.size w w'
theorem tr_no {W x : Int} {l : List (List Int)} {w w' : World} (h : x = slErr W l) (hx : x ≠ 0) (hb : Below w.heap.size w w') : TrPost W l w (.returned (.tuple #[.slice none 0 0, .int .i64 x])) w' := by
  subst h
  unfold TrPost trimL
  rw [if_neg hx]
  exact ⟨none, 0, rfl, Rds.nil _ _ _ _, hb⟩
theorem tr_ok {W : Int} {l L : List (List Int)} {w w' : World} {A : Option Addr} {c N m : Nat} (h : slErr W l = 0) (hL : L = trims W 0 l) (hN : m = L.length) (ho : w'.ownsRow N 57 2 (.slice A m c) m (ints L.flatten)) (hb : Below w.heap.size w w') : TrPost W l w (.returned (.tuple #[.slice A m c, .int .i64 0])) w' := by
  subst hL hN
  unfold TrPost trimL
  rw [if_pos h, h]
  exact ⟨A, c, rfl, Rds.own ho (fun _ _ => id), hb⟩
set_option linter.unusedSimpArgs false in
set_option maxRecDepth 100000 in
set_option maxHeartbeats 4000000 in
theorem trim_any (W : Int) (a : Option Addr) (c n : Nat) (l : List (List Int)) (w : World) (r : Rds Nn w 2 a n (ints l.flatten)) (t : ∀ s ∈ l, s.length = 2) (hn : n = l.length) (hl : n ≤ maxLen) : Calls Try.prog 12 #[.int .i64 W, .slice a n c] w (TrPost W l w) := by
  unfold maxLen at hl
  have R1 := hid r
  have T := hid t
  have HN := hid hn
  clear r t hn
  go_enter Try.func12, Try.ntmps12
  go_wp2_with fail
  refine (scheck_any W a c n l _ R1.out T.out HN.out (by unfold maxLen; omega)).mono ?_
  rintro e w1 ⟨rfl, hb⟩
  have B1 := hid hb
  clear hb
  by_cases hz : slErr W l = 0
  rotate_left
  · have hz2 : (slErr W l != 0) = true := by simpa using hz
    have HZ := hid hz
    clear hz
    go_wp2
    go_ret2
    exact tr_no rfl HZ.out B1.out
  have HZ := hid hz
  obtain ⟨hW, hl12, hls, hap⟩ := sl_ok hz
  have LS := hid hls
  have HW := hid hW
  rw [hz]
  clear hz hls hap
  have n12 : n ≤ 12 := by rw [HN.out]; exact hl12
  clear hl12
  go_wp2_with fail
  refine (sclone_any a c n l _ (R1.out.below B1.out) HN.out (by omega)).mono ?_
  rintro e w2 ⟨u, rfl, hu, hb⟩
  rw [← HN.out] at hu
  obtain ⟨A2, c2, rfl, _, _⟩ := own_form hu
  have O2 := hid hu
  have B2 := hid hb
  clear hu hb
  go_wp2_with (at_builtin; refine wpList_app (n := n) (m := 1) (news := ints [W, 0]) infoS Try.underlying22 (by kernel_rfl) (by omega) (by omega) (own_keep (own_base_le O2.out (Nat.zero_le _)) ((Chg.refl Nn _).alloc _) (fun _ _ => id)) (Rds.pairAt _ _ _ _ _ rfl) (ints_one _) (by omega) rfl rfl rfl rfl ?_; intro v3 w3 hown hchg hnew; obtain ⟨A3, c3, rfl, _, _⟩ := own_form hown; have NR : Hid (∀ g, Rw (.slice A2 n c2) g → w1.heap.size ≤ g) := hid (fun g hg => (own_blk O2.out g hg).1); have D2 := hid (Below.alloc B2.out B2.out.size (.cells #[.int .i64 W, .int .i64 0] 57)); have D3 := hid (hchg.then_below D2.out (fun j hj hf => by have h1 := NR.out j hf; omega) D2.out.size); have R3 := hid (Rds.own hown (S := Nn) (fun _ _ => id)); clear hown hchg hnew)
  have B3 := hid (B1.out.trans (D3.out.mono B1.out.size))
  obtain ⟨L1, hL1⟩ : ∃ L1, l ++ [[W, 0]] = L1 := ⟨_, rfl⟩
  have RL : Hid (Rds Nn w3 2 A3 (n + 1) (ints L1.flatten)) := hid (by rw [← hL1]; simpa [ints] using R3.out)
  have TL : Hid (∀ s ∈ L1, s.length = 2) := hid (fun s hs => by rw [← hL1] at hs; rcases List.mem_append.1 hs with h | h; exact T.out s h; simp at h; subst h; rfl)
  have NL : Hid (n + 1 = L1.length) := hid (by rw [← hL1, List.length_append, ← HN.out]; rfl)
  have BL : Hid (∀ s ∈ L1, 0 ≤ s.getD 0 0 ∧ s.getD 0 0 ≤ 12000 ∧ 0 ≤ s.getD 1 0 ∧ s.getD 1 0 ≤ 12000) := hid (fun s hs => by
    rw [← hL1] at hs
    rcases List.mem_append.1 hs with h | h
    · have := LS.out s h
      have := HW.out
      unfold lies at *
      omega
    · simp at h; subst h; have := HW.out; simp; omega)
  have GL : Hid (gaps 0 L1 = trims W 0 l) := hid (by rw [← hL1, trims_gaps])
  clear hL1 R3
  go_loopw [7, 8, 24] (fun u v i wr => ∃ (k : Nat) (x : Int) (Lo : List (List Int)), k ≤ n + 1 ∧ i = .int .i64 k ∧ v = .int .i64 x ∧ (0 ≤ x ∧ x ≤ 24000) ∧ Lo.length ≤ k ∧ Lo ++ gaps x (L1.drop k) = gaps 0 L1 ∧ wr.ownsRow w3.heap.size 57 2 u Lo.length (ints Lo.flatten) ∧ Below w3.heap.size w3 wr) (fun _ _ i _ => n + 1 - (intOf i).toNat)
  case atStart => exact ⟨0, 0, [], Nat.zero_le _, rfl, rfl, by omega, Nat.le_refl _, rfl, own_nil _ _ _ _, Below.refl _ _⟩
  case round =>
    obtain ⟨k, x, Lo, hk, rfl, rfl, hx, hLo, hg, hown, hbel⟩ := hrel
    have HG := hid hg
    have OW := hid hown
    have BB := hid hbel
    obtain ⟨Ao, co, rfl, _, _⟩ := own_form hown
    obtain ⟨no, hno⟩ : ∃ no, Lo.length = no := ⟨_, rfl⟩
    have NO := hid hno
    rw [hno] at OW hLo ⊢
    clear hg hown hbel hno
    by_cases hlt : k < n + 1
    · obtain ⟨p1, o1, p, q, rfl, _, hpq, hc⟩ := cells_at RL.out TL.out NL.out hlt
      obtain ⟨e1, e2⟩ := hc _ BB.out
      have PB := BL.out _ (List.mem_of_getElem? hpq)
      have DR : Hid (L1.drop k = [p, q] :: L1.drop (k + 1)) := hid (by
        obtain ⟨h1, h2⟩ := List.getElem?_eq_some_iff.1 hpq
        rw [List.drop_eq_getElem_cons h1, h2])
      simp only [List.getD_cons_zero, List.getD_cons_succ] at PB
      clear hc hpq
      obtain ⟨pb1, pb2, pb3, pb4⟩ := PB
      obtain ⟨yb, hyb⟩ : ∃ yb, wr.heap.size = yb := ⟨_, rfl⟩
      have NB : Hid (∀ g, Rw (.slice Ao no co) g → w3.heap.size ≤ g ∧ g < yb) := hid (fun g hg => by have := own_blk OW.out g hg; omega)
      go_upto_region 9 with fail
      have Y4 := hid (Blk.at_new wr (b := wr.heap.size) (t := 57) (cs := #[.int .i64 p, .int .i64 q]) rfl)
      have B4 := hid (Below.alloc BB.out BB.out.size (.cells #[.int .i64 p, .int .i64 q] 57))
      have O4 := hid (own_keep OW.out ((Chg.refl Nn _).alloc (.cells #[.int .i64 p, .int .i64 q] 57)) (fun _ _ => id))
      generalize hy4 : (wr.alloc (.cells #[.int .i64 p, .int .i64 q] 57)) = y4 at Y4 B4 O4 ⊢
      rw [hyb] at Y4
      try rw [hyb]
      clear e1 e2 hy4 hyb
      have cY := Y4.out.cell
      have ws : IntKind.i64.wrap (p + q) = p + q := IntWalk.i64_in _ (by omega)
      have wd : IntKind.i64.wrap (p - x) = p - x := IntWalk.i64_in _ (by omega)
      by_cases hgt : x < p
      · have NG : Hid (gaps x ([p, q] :: L1.drop (k + 1)) = [[x, p - x]] ++ gaps (p + q) (L1.drop (k + 1))) := hid (by
          show (if x < p then [[x, p - x]] else []) ++ _ = _
          rw [if_pos hgt]
          rfl)
        go_wp2_with (at_builtin; refine wpList_app (n := no) (m := 1) (news := ints [x, p - x]) infoS Try.underlying22 (by kernel_rfl) (by omega) (by omega) (own_keep (own_base_le O4.out (Nat.zero_le _)) ((Chg.refl Nn _).alloc _) (fun _ _ => id)) (Rds.pairAt _ _ _ _ _ rfl) (ints_one _) (by omega) rfl rfl rfl rfl ?_; intro v6 w6 hown hchg hnew; obtain ⟨A6, c6, rfl, _, _⟩ := own_form hown; have A5 := hid (Below.alloc B4.out B4.out.size (.cells #[.int .i64 x, .int .i64 (p - x)] 57)); have B6 := hid (hchg.then_below A5.out (fun j hj hf => by have h1 := NB.out j hf; omega) A5.out.size); have O6 := hid (own_rebase hown (base' := w3.heap.size) (fun g hg => (hnew g hg).elim (fun h => (NB.out g h).1) (fun h => by have h2 := B4.out.size; simp at h; omega))); have cY6 := ((Blk.alloc Y4.out (.cells #[.int .i64 x, .int .i64 (p - x)] 57)).keep hchg (fun h => by have := (NB.out _ h).2; omega)).cell; clear hown hchg hnew)
        go_roundw
        case rel =>
          refine ⟨k + 1, p + q, Lo ++ [[x, p - x]], by omega, by go_num, by go_num, by omega, by rw [List.length_append, NO.out]; simp; omega, ?_, ?_, B6.out⟩
          · have := HG.out
            rw [DR.out, NG.out] at this
            rw [List.append_assoc]
            exact this
          · have := O6.out
            rw [List.length_append, NO.out]
            simpa [ints] using this
        case measure => simp [intOf]; omega
      · have NG : Hid (gaps x ([p, q] :: L1.drop (k + 1)) = gaps (p + q) (L1.drop (k + 1))) := hid (by
          show (if x < p then [[x, p - x]] else []) ++ _ = _
          rw [if_neg hgt]
          rfl)
        go_wp2
        go_roundw
        case rel =>
          refine ⟨k + 1, p + q, Lo, by omega, by go_num, by go_num, by omega, by rw [NO.out]; omega, ?_, by rw [NO.out]; exact O4.out, B4.out⟩
          have := HG.out
          rw [DR.out, NG.out] at this
          exact this
        case measure => simp [intOf]; omega
    · obtain rfl : k = n + 1 := by omega
      have LE : Hid (Lo = trims W 0 l) := hid (by
        have := HG.out
        rw [List.drop_eq_nil_of_le (by rw [← NL.out]; exact Nat.le_refl _), GL.out] at this
        simpa [gaps] using this)
      go_wp2
      go_ret2
      exact tr_ok HZ.out LE.out NO.out.symm OW.out (B3.out.trans (BB.out.mono B3.out.size))
set_option linter.unusedSimpArgs false in
set_option maxRecDepth 100000 in
set_option maxHeartbeats 4000000 in
theorem rtrim_any (W : Int) (a : Option Addr) (c n : Nat) (l : List (List Int)) (w : World) (r : Rds Nn w 2 a n (ints l.flatten)) (t : ∀ s ∈ l, s.length = 2) (hn : n = l.length) (hl : n ≤ maxLen) : Calls Try.prog 13 #[.int .i64 W, .slice a n c] w (TrPost W l w) := by
  unfold maxLen at hl
  have R1 := hid r
  have T := hid t
  have HN := hid hn
  clear r t hn
  go_enter Try.func13, Try.ntmps13
  go_wp2_with fail
  refine (rscheck_any W a c n l _ R1.out T.out HN.out (by unfold maxLen; omega)).mono ?_
  rintro e w1 ⟨rfl, hb⟩
  have B1 := hid hb
  clear hb
  by_cases hz : slErr W l = 0
  rotate_left
  · have hz2 : (slErr W l != 0) = true := by simpa using hz
    have HZ := hid hz
    clear hz
    go_wp2
    go_ret2
    exact tr_no rfl HZ.out B1.out
  have HZ := hid hz
  obtain ⟨hW, hl12, hls, hap⟩ := sl_ok hz
  have LS := hid hls
  have HW := hid hW
  rw [hz]
  clear hz hls hap
  have n12 : n ≤ 12 := by rw [HN.out]; exact hl12
  obtain ⟨hW1, hW2⟩ := hW
  clear hl12
  go_wp2
  go_loopw [7, 8, 9] (fun u v i wr => ∃ (k : Nat) (x : Int) (Lo : List (List Int)), k ≤ n + 1 ∧ i = .int .i64 k ∧ v = .int .i64 x ∧ (0 ≤ x ∧ x ≤ 24000) ∧ Lo.length ≤ k ∧ (k ≤ n → Lo ++ trims W x (l.drop k) = trims W 0 l) ∧ (k = n + 1 → Lo = trims W 0 l) ∧ wr.ownsRow w1.heap.size 57 2 u Lo.length (ints Lo.flatten) ∧ Below w1.heap.size w1 wr) (fun _ _ i _ => n + 1 - (intOf i).toNat)
  case atStart => exact ⟨0, 0, [], Nat.zero_le _, rfl, rfl, by omega, Nat.le_refl _, fun _ => rfl, fun h => by omega, own_nil _ _ _ _, Below.refl _ _⟩
  case round =>
    obtain ⟨k, x, Lo, hk, rfl, rfl, ⟨hx1, hx2⟩, hLo, hg, hfin, hown, hbel⟩ := hrel
    have HG := hid hg
    have HF := hid hfin
    have OW := hid hown
    have BB := hid hbel
    obtain ⟨Ao, co, rfl, _, _⟩ := own_form hown
    obtain ⟨no, hno⟩ : ∃ no, Lo.length = no := ⟨_, rfl⟩
    have NO := hid hno
    rw [hno] at OW hLo ⊢
    have NB : Hid (∀ g, Rw (.slice Ao no co) g → w1.heap.size ≤ g ∧ g < wr.heap.size) := hid (fun g hg => own_blk OW.out g hg)
    clear hg hfin hown hbel hno
    by_cases hlt : k < n
    · obtain ⟨p1, o1, p, q, rfl, _, hpq, hc⟩ := cells_at R1.out T.out HN.out hlt
      obtain ⟨e1, e2⟩ := hc _ (B1.out.trans (BB.out.mono B1.out.size))
      have EC := hid hc
      have LX := four_true (lies_b.1 (LS.out _ (List.mem_of_getElem? hpq)))
      have DR : Hid (l.drop k = [p, q] :: l.drop (k + 1)) := hid (by
        obtain ⟨h1, h2⟩ := List.getElem?_eq_some_iff.1 hpq
        rw [List.drop_eq_getElem_cons h1, h2])
      clear hc hpq
      obtain ⟨pb1, pb2, pb3, pb4⟩ := LX
      have ws : IntKind.i64.wrap (p + q) = p + q := IntWalk.i64_in _ (by omega)
      have wd : IntKind.i64.wrap (p - x) = p - x := IntWalk.i64_in _ (by omega)
      by_cases hgt : x < p
      · have NG : Hid (trims W x ([p, q] :: l.drop (k + 1)) = [[x, p - x]] ++ trims W (p + q) (l.drop (k + 1))) := hid (by
          show (if x < p then [[x, p - x]] else []) ++ _ = _
          rw [if_pos hgt]
          rfl)
        go_wp2_with (at_builtin; refine wpList_app (n := no) (m := 1) (news := ints [x, p - x]) infoS Try.underlying22 (by kernel_rfl) (by omega) (by omega) (own_keep (own_base_le OW.out (Nat.zero_le _)) ((Chg.refl Nn _).alloc _) (fun _ _ => id)) (Rds.pairAt _ _ _ _ _ rfl) (ints_one _) (by omega) rfl rfl rfl rfl ?_; intro v6 w6 hown hchg hnew; obtain ⟨A6, c6, rfl, _, _⟩ := own_form hown; have A5 := hid (Below.alloc BB.out BB.out.size (.cells #[.int .i64 x, .int .i64 (p - x)] 57)); have B6 := hid (hchg.then_below A5.out (fun j hj hf => by have h1 := NB.out j hf; omega) A5.out.size); have O6 := hid (own_rebase hown (base' := w1.heap.size) (fun g hg => (hnew g hg).elim (fun h => (NB.out g h).1) (fun h => by have h2 := BB.out.size; simp at h; omega))); have f6 := EC.out _ (B1.out.trans (B6.out.mono B1.out.size)); obtain ⟨f1, f2⟩ := f6; clear hown hchg hnew)
        go_quiet (fail)
        go_wp2
        go_roundw
        case rel =>
          refine ⟨k + 1, p + q, Lo ++ [[x, p - x]], by omega, by go_num, by go_num, by omega, by rw [List.length_append, NO.out]; simp; omega, fun _ => ?_, fun h => by omega, ?_, below_drewN B6.out _⟩
          · have := HG.out (by omega)
            rw [DR.out, NG.out] at this
            rw [List.append_assoc]
            exact this
          · have := own_drewN O6.out nq
            rw [List.length_append, NO.out]
            simpa [ints] using this
        case measure => simp [intOf]; omega
      · have NG : Hid (trims W x ([p, q] :: l.drop (k + 1)) = trims W (p + q) (l.drop (k + 1))) := hid (by
          show (if x < p then [[x, p - x]] else []) ++ _ = _
          rw [if_neg hgt]
          rfl)
        go_wp2_with fail
        go_quiet (fail)
        go_wp2
        go_roundw
        case rel =>
          refine ⟨k + 1, p + q, Lo, by omega, by go_num, by go_num, by omega, by rw [NO.out]; omega, fun _ => ?_, fun h => by omega, by rw [NO.out]; exact OW.out, below_drewN BB.out _⟩
          have := HG.out (by omega)
          rw [DR.out, NG.out] at this
          exact this
        case measure => simp [intOf]; omega
    · by_cases hkn : k = n
      · subst hkn
        have DR : Hid (l.drop k = []) := hid (by rw [HN.out]; exact List.drop_length)
        have wd : IntKind.i64.wrap (W - x) = W - x := IntWalk.i64_in _ (by omega)
        by_cases hgt : x < W
        · have NG : Hid (trims W x [] = [[x, W - x]]) := hid (by unfold trims; rw [if_pos hgt])
          go_wp2_with (at_builtin; refine wpList_app (n := no) (m := 1) (news := ints [x, W - x]) infoS Try.underlying22 (by kernel_rfl) (by omega) (by omega) (own_keep (own_base_le OW.out (Nat.zero_le _)) ((Chg.refl Nn _).alloc _) (fun _ _ => id)) (Rds.pairAt _ _ _ _ _ rfl) (ints_one _) (by omega) rfl rfl rfl rfl ?_; intro v6 w6 hown hchg hnew; obtain ⟨A6, c6, rfl, _, _⟩ := own_form hown; have A5 := hid (Below.alloc BB.out BB.out.size (.cells #[.int .i64 x, .int .i64 (W - x)] 57)); have B6 := hid (hchg.then_below A5.out (fun j hj hf => by have h1 := NB.out j hf; omega) A5.out.size); have O6 := hid (own_rebase hown (base' := w1.heap.size) (fun g hg => (hnew g hg).elim (fun h => (NB.out g h).1) (fun h => by have h2 := BB.out.size; simp at h; omega))); clear hown hchg hnew)
          go_roundw
          case rel =>
            refine ⟨k + 1, x, Lo ++ [[x, W - x]], by omega, by go_num, by go_num, by omega, by rw [List.length_append, NO.out]; simp; omega, fun h => by omega, fun _ => ?_, ?_, B6.out⟩
            · have := HG.out (Nat.le_refl _)
              rw [DR.out, NG.out] at this
              exact this
            · have := O6.out
              rw [List.length_append, NO.out]
              simpa [ints] using this
          case measure => simp [intOf] <;> omega
        · have NG : Hid (trims W x [] = []) := hid (by unfold trims; rw [if_neg hgt])
          go_wp2
          go_roundw
          case rel =>
            refine ⟨k + 1, x, Lo, by omega, by go_num, by go_num, by omega, by rw [NO.out]; omega, fun h => by omega, fun _ => ?_, by rw [NO.out]; exact OW.out, BB.out⟩
            have := HG.out (Nat.le_refl _)
            rw [DR.out, NG.out, List.append_nil] at this
            exact this
          case measure => simp [intOf] <;> omega
      · obtain rfl : k = n + 1 := by omega
        have LE := hid (HF.out rfl)
        go_wp2
        go_ret2
        exact tr_ok HZ.out LE.out NO.out.symm OW.out (B1.out.trans (BB.out.mono B1.out.size))
end Go.Proofs.Ytccgbojcghbdcaa
