/- Chapter 39: Strips of both. -/
import Derived.Test.YtccgbojcghbdcaaSl2
import Derived.Test.YtccgbojcghbdcaaSPn9
namespace Go.Proofs.Ytccgbojcghbdcaa
open Go.RowKit

structure StI (E : Int) (zs cs : List Int) (k : Nat) (x : Int) (Lo : List (List Int)) : Prop where
  eq : Lo ++ strips x (cs.drop k) (zs.drop k) = strips E cs zs
  sum : x + dot (cs.drop k) (zs.drop k) = E + dot cs zs
  len : (Lo.length : Int) + sumI (cs.drop k) = sumI cs
  pos : 0 ≤ x
structure StJ (E : Int) (zs cs : List Int) (k : Nat) (z : Int) (m : Nat) (x : Int) (Lo : List (List Int)) : Prop where
  eq : Lo ++ (same m x z ++ strips (x + m * z) (cs.drop (k + 1)) (zs.drop (k + 1))) = strips E cs zs
  sum : x + m * z + dot (cs.drop (k + 1)) (zs.drop (k + 1)) = E + dot cs zs
  len : (Lo.length : Int) + m + sumI (cs.drop (k + 1)) = sumI cs
  pos : 0 ≤ x
theorem drop_at {l : List Int} {k : Nat} {y : Int} (h : l[k]? = some y) : l.drop k = y :: l.drop (k + 1) := by
  obtain ⟨h1, h2⟩ := List.getElem?_eq_some_iff.1 h
  rw [List.drop_eq_getElem_cons h1, h2]
theorem sti_0 {E : Int} (zs cs : List Int) (hE : 0 ≤ E) : StI E zs cs 0 E [] := ⟨rfl, rfl, by simp, hE⟩
theorem sti_in {E x y z : Int} {zs cs : List Int} {k : Nat} {Lo : List (List Int)} (h : StI E zs cs k x Lo) (hy : cs[k]? = some y) (hz : zs[k]? = some z) (h0 : 0 ≤ y) : StJ E zs cs k z y.toNat x Lo := by
  obtain ⟨h1, h2, h3, h4⟩ := h
  rw [drop_at hy, drop_at hz] at h1 h2
  rw [drop_at hy] at h3
  have e : ((y.toNat : Nat) : Int) = y := by omega
  simp only [strips] at h1
  simp only [dot] at h2
  simp only [sumI] at h3
  refine ⟨h1, by rw [e]; omega, by omega, h4⟩
theorem stj_step {E x z : Int} {zs cs : List Int} {k m : Nat} {Lo : List (List Int)} (h : StJ E zs cs k z (m + 1) x Lo) (h0 : 0 ≤ z) : StJ E zs cs k z m (x + z) (Lo ++ [[x, z]]) := by
  obtain ⟨h1, h2, h3, h4⟩ := h
  have e : ((m + 1 : Nat) : Int) * z = z + m * z := by rw [Int.natCast_add, Int.add_mul]; simp; omega
  rw [e] at h1 h2
  refine ⟨?_, by omega, by simp; omega, by omega⟩
  rw [← h1]
  simp [same, Int.add_assoc]
theorem stj_out {E x z : Int} {zs cs : List Int} {k : Nat} {Lo : List (List Int)} (h : StJ E zs cs k z 0 x Lo) : StI E zs cs (k + 1) x Lo := by
  obtain ⟨h1, h2, h3, h4⟩ := h
  simp [same] at h1 h2 h3
  exact ⟨h1, h2, h3, h4⟩
theorem sti_end {E x : Int} {zs cs : List Int} {k : Nat} {Lo : List (List Int)} (h : StI E zs cs k x Lo) (hk : cs.length ≤ k) : Lo = strips E cs zs := by
  have h1 := h.eq
  rw [List.drop_eq_nil_of_le hk] at h1
  simpa [strips] using h1
theorem drop_pos {l : List Int} {a : Int} (h : ∀ n ∈ l, a ≤ n) (k : Nat) : ∀ n ∈ l.drop k, a ≤ n := fun n hn => h n (List.mem_of_mem_drop hn)
theorem sti_bound {E x : Int} {zs cs : List Int} {k : Nat} {Lo : List (List Int)} (h : StI E zs cs k x Lo) (hc : ∀ n ∈ cs, 0 ≤ n) (hz : ∀ z ∈ zs, 1 ≤ z ∧ z ≤ 12000) : x ≤ E + dot cs zs ∧ (Lo.length : Int) ≤ sumI cs := by
  have h1 := dot_sum (drop_pos hc k) (zs := zs.drop k) (fun z hm => hz z (List.mem_of_mem_drop hm))
  have h2 := sumI_nonneg (drop_pos hc k)
  have h3 := h.sum
  have h4 := h.len
  omega
theorem stj_bound {E x z : Int} {zs cs : List Int} {k m : Nat} {Lo : List (List Int)} (h : StJ E zs cs k z m x Lo) (hc : ∀ n ∈ cs, 0 ≤ n) (hz : ∀ z ∈ zs, 1 ≤ z ∧ z ≤ 12000) (h0 : 0 ≤ z) : x ≤ E + dot cs zs ∧ (Lo.length : Int) + m ≤ sumI cs ∧ (1 ≤ m → x + z ≤ E + dot cs zs) := by
  have h1 := dot_sum (drop_pos hc (k + 1)) (zs := zs.drop (k + 1)) (fun z hm => hz z (List.mem_of_mem_drop hm))
  have h2 := sumI_nonneg (drop_pos hc (k + 1))
  have h3 := h.sum
  have h4 := h.len
  have h5 : 0 ≤ (m : Int) * z := Int.mul_nonneg (by omega) h0
  refine ⟨by omega, by omega, fun hm => ?_⟩
  obtain ⟨q, rfl⟩ : ∃ q, m = q + 1 := ⟨m - 1, by omega⟩
  have e : ((q + 1 : Nat) : Int) * z = z + q * z := by rw [Int.natCast_add, Int.add_mul]; simp; omega
  have h6 : 0 ≤ (q : Int) * z := Int.mul_nonneg (by omega) h0
  omega
def stripL (W E T J : Int) (zs cs : List Int) : List (List Int) := if ftErr W E T J zs cs = 0 then strips E cs zs else []
def StPost (W E T J : Int) (zs cs : List Int) (w : World) : Ending → World → Prop := fun e w' => ∃ A c, e = .returned (.tuple #[.slice A (stripL W E T J zs cs).length c, .int .i64 (ftErr W E T J zs cs)]) ∧ Rds Nn w' 2 A (stripL W E T J zs cs).length (ints (stripL W E T J zs cs).flatten) ∧ Below w.heap.size w w'
theorem st_no {W E T J x : Int} {zs cs : List Int} {w w' : World} (h : x = ftErr W E T J zs cs) (hx : x ≠ 0) (hb : Below w.heap.size w w') : StPost W E T J zs cs w (.returned (.tuple #[.slice none 0 0, .int .i64 x])) w' := by
  subst h
  unfold StPost stripL
  rw [if_neg hx]
  exact ⟨none, 0, rfl, Rds.nil _ _ _ _, hb⟩
theorem st_ok {W E T J : Int} {zs cs : List Int} {L : List (List Int)} {w w' : World} {A : Option Addr} {c N m : Nat} (h : ftErr W E T J zs cs = 0) (hL : L = strips E cs zs) (hN : m = L.length) (ho : w'.ownsRow N 57 2 (.slice A m c) m (ints L.flatten)) (hb : Below w.heap.size w w') : StPost W E T J zs cs w (.returned (.tuple #[.slice A m c, .int .i64 0])) w' := by
  subst hL hN
  unfold StPost stripL
  rw [if_pos h, h]
  exact ⟨A, c, rfl, Rds.own ho (fun _ _ => id), hb⟩
theorem ft_ok {W E T J : Int} {zs cs : List Int} (h : ftErr W E T J zs cs = 0) : chkErr W E T J zs = 0 ∧ fitErr W E T J zs cs = 0 := by
  unfold ftErr at h
  by_cases hc : chkErr W E T J zs = 0
  · rw [if_neg (fun e => e hc)] at h
    exact ⟨hc, h⟩
  · rw [if_pos hc] at h
    exact absurd h hc
set_option linter.unusedSimpArgs false in
set_option maxRecDepth 100000 in
set_option maxHeartbeats 8000000 in
theorem strips_any (W E T J : Int) (a a2 : Option Addr) (c c2 n n2 : Nat) (zs cs : List Int) (w : World) (r : Rds Nn w 1 a n (ints zs)) (r2 : Rds Nn w 1 a2 n2 (ints cs)) (hn : n = zs.length) (hn2 : n2 = cs.length) (hl : n ≤ maxLen) (hl2 : n2 ≤ 1000000) : Calls Try.prog 17 #[.agg #[.int .i64 W, .int .i64 E, .int .i64 T, .int .i64 J, .slice a n c], .slice a2 n2 c2] w (StPost W E T J zs cs w) := by
  have RR := hid r
  have R2 := hid r2
  have HN2 := hid hn2
  have HN := hid hn
  clear r r2 hn hn2
  have D0 := hid (Blk.at_new w (b := w.heap.size) (t := 32) (cs := #[.int .i64 W, .int .i64 E, .int .i64 T, .int .i64 J, .slice a n c]) rfl)
  have B0 := hid ((Below.refl w.heap.size w).alloc (Nat.le_refl _) (.cells #[.int .i64 W, .int .i64 E, .int .i64 T, .int .i64 J, .slice a n c] 32))
  go_enter Try.func17, Try.ntmps17
  go_wp2_with (refine wpList_load_blk2 (t := 32) rfl rfl rfl Try.underlying32 rfl (by kernel_rfl) D0.out ?_)
  refine (pfits_any W E T J a a2 c c2 n n2 zs cs _ (RR.out.below B0.out) (R2.out.below B0.out) HN.out HN2.out hl hl2).mono ?_
  rintro e w1 ⟨rfl, hb⟩
  have D1 := hid (D0.out.below hb D0.out.lt)
  have B1 := hid (B0.out.trans (hb.mono B0.out.size))
  clear hb
  by_cases hz : ftErr W E T J zs cs = 0
  rotate_left
  · have hz2 : (ftErr W E T J zs cs != 0) = true := by simpa using hz
    have HZ := hid hz
    clear hz
    go_wp2
    go_ret2
    exact st_no rfl HZ.out B1.out
  have HZ := hid hz
  obtain ⟨hck, hft⟩ := ft_ok hz
  rw [hz]
  clear hz
  have RI := hid (dk_right (chk_ok hck).1)
  have FO := hid (fit_ok hft)
  have ZP : Hid (∀ z ∈ zs, 1 ≤ z ∧ z ≤ 12000) := hid (fun z hz => by have := RI.out.z z hz; have h2 := RI.out.e; have h3 := RI.out.w; unfold us at *; omega)
  have hE : 0 ≤ E := by have := RI.out.e; omega
  have TOT : Hid (E + dot cs zs ≤ 12000 ∧ sumI cs ≤ 12) := hid (by have h1 := RI.out.w; have h2 := RI.out.e; have h3 := RI.out.k; have h4 := FO.out; unfold us at *; omega)
  have NN : n2 = n := by rw [HN.out, HN2.out]; exact FO.out.1
  subst NN
  have c1 := D1.out.cell
  clear hck hft
  go_wp2
  clear c1
  obtain ⟨N1, hN1⟩ : ∃ N1, w1.heap.size = N1 := ⟨_, rfl⟩
  go_loopw [7, 8, 21] (fun u v i wr => ∃ (k : Nat) (x : Int) (Lo : List (List Int)), k ≤ n2 ∧ i = .int .i64 k ∧ v = .int .i64 x ∧ StI E zs cs k x Lo ∧ wr.ownsRow w1.heap.size 57 2 u Lo.length (ints Lo.flatten) ∧ Below w1.heap.size w1 wr) (fun _ _ i _ => n2 - (intOf i).toNat)
  case atStart => exact ⟨0, E, [], Nat.zero_le _, rfl, rfl, sti_0 _ _ hE, own_nil _ _ _ _, Below.refl _ _⟩
  case round =>
    obtain ⟨k, x, Lo, hk, rfl, rfl, hst, hown, hbel⟩ := hrel
    have ST := hid hst
    have OW := hid hown
    have BB := hid hbel
    have D2 := hid (D1.out.below hbel D1.out.lt)
    clear hst hown hbel
    by_cases hlt : k < n2
    · obtain ⟨p1, o1, y, rfl, _, hy, hc⟩ := num_at R2.out hlt
      obtain ⟨p2, o2, z, rfl, _, hz, hcz⟩ := num_at RR.out hlt
      have EC := hid hc
      have EZ := hid hcz
      have HY0 := FO.out.2.1 y (List.mem_of_getElem? hy)
      have HZ0 := ZP.out z (List.mem_of_getElem? hz)
      have e1 := hc _ (B1.out.trans (BB.out.mono B1.out.size))
      have SJ := hid (sti_in ST.out hy hz HY0)
      have hy12 : y ≤ 12 := by
        have h1 := stj_bound SJ.out FO.out.2.1 ZP.out (by omega)
        have h2 := TOT.out
        omega
      clear hc hcz hy hz
      go_wp2
      clear e1
      go_loopw [7, 8, 27] (fun u v i wr => ∃ (j m : Nat) (x : Int) (Lo : List (List Int)), (j : Int) + m = y ∧ i = .int .i64 j ∧ v = .int .i64 x ∧ StJ E zs cs k z m x Lo ∧ wr.ownsRow w1.heap.size 57 2 u Lo.length (ints Lo.flatten) ∧ Below w1.heap.size w1 wr) (fun _ _ i _ => (y - intOf i).toNat)
      case atStart => exact ⟨0, y.toNat, x, Lo, by omega, rfl, rfl, SJ.out, OW.out, BB.out⟩
      case round =>
        clear SJ ST OW BB D2
        obtain ⟨j, m, x, Lo, hjm, rfl, rfl, hst, hown, hbel⟩ := hrel
        have SJ := hid hst
        have OW := hid hown
        have BB := hid hbel
        have B2 := hid (B1.out.trans (hbel.mono B1.out.size))
        have D2 := hid (D1.out.below hbel D1.out.lt)
        have BD := stj_bound hst FO.out.2.1 ZP.out (by omega)
        have T2 := TOT.out
        have x0 := hst.pos
        obtain ⟨Ao, co, rfl, _, _⟩ := own_form hown
        obtain ⟨no, hno⟩ : ∃ no, Lo.length = no := ⟨_, rfl⟩
        have NO := hid hno
        rw [hno] at OW BD ⊢
        have NB : Hid (∀ g, Rw (.slice Ao no co) g → w1.heap.size ≤ g ∧ g < wr.heap.size) := hid (fun g hg => own_blk OW.out g hg)
        clear hst hown hbel hno
        have c2' := D2.out.cell
        skip
        by_cases hjl : j < y
        · obtain ⟨q, rfl⟩ : ∃ q, m = q + 1 := ⟨m - 1, by omega⟩
          have e3 := EZ.out _ B2.out
          have hb3 := BD.2.2 (by omega)
          have ws : IntKind.i64.wrap (x + z) = x + z := IntWalk.i64_in _ (by omega)
          go_wp2_with (at_builtin; refine wpList_app (n := no) (m := 1) (news := ints [x, z]) infoS Try.underlying22 (by kernel_rfl) (by omega) (by omega) (own_keep (own_base_le OW.out (Nat.zero_le _)) ((Chg.refl Nn _).alloc _) (fun _ _ => id)) (Rds.pairAt _ _ _ _ _ rfl) (ints_one _) (by omega) rfl rfl rfl rfl ?_; intro v6 w6 hown hchg hnew; obtain ⟨A6, c6, rfl, _, _⟩ := own_form hown; have A5 := hid (Below.alloc BB.out BB.out.size (.cells #[.int .i64 x, .int .i64 z] 57)); have B6 := hid (hchg.then_below A5.out (fun j hj hf => by have h1 := NB.out j hf; omega) A5.out.size); have O6 := hid (own_rebase hown (base' := w1.heap.size) (fun g hg => (hnew g hg).elim (fun h => (NB.out g h).1) (fun h => by have h2 := BB.out.size; simp at h; omega))); have c6' := (D1.out.below B6.out D1.out.lt).cell; have e6 := EZ.out _ (B1.out.trans (B6.out.mono B1.out.size)); clear hown hchg hnew)
          go_roundw
          case rel =>
            refine ⟨j + 1, q, x + z, Lo ++ [[x, z]], by omega, by go_num, by go_num, stj_step SJ.out (by omega), ?_, B6.out⟩
            have := O6.out
            rw [List.length_append, NO.out]
            simpa [ints] using this
          case measure => simp [intOf] <;> omega
        · obtain rfl : m = 0 := by omega
          have ST := hid (stj_out SJ.out)
          go_wp2
          go_roundw
          case rel => exact ⟨k + 1, x, Lo, by omega, by go_num, by go_num, ST.out, by rw [NO.out]; exact OW.out, BB.out⟩
          case measure => simp [intOf] <;> omega
    · obtain rfl : k = n2 := by omega
      have LE := hid (sti_end ST.out (by rw [← HN2.out]; exact Nat.le_refl _))
      obtain ⟨Ao, co, rfl, _, _⟩ := own_form OW.out
      go_wp2
      go_ret2
      exact st_ok HZ.out LE.out rfl OW.out (B1.out.trans (BB.out.mono B1.out.size))
set_option linter.unusedSimpArgs false in
set_option maxRecDepth 100000 in
set_option maxHeartbeats 8000000 in
theorem rstrips_any (W E T J : Int) (a a2 : Option Addr) (c c2 n n2 : Nat) (zs cs : List Int) (w : World) (r : Rds Nn w 1 a n (ints zs)) (r2 : Rds Nn w 1 a2 n2 (ints cs)) (hn : n = zs.length) (hn2 : n2 = cs.length) (hl : n ≤ maxLen) (hl2 : n2 ≤ 1000000) : Calls Try.prog 18 #[.agg #[.int .i64 W, .int .i64 E, .int .i64 T, .int .i64 J, .slice a n c], .slice a2 n2 c2] w (StPost W E T J zs cs w) := by
  have RR := hid r
  have R2 := hid r2
  have HN2 := hid hn2
  have HN := hid hn
  clear r r2 hn hn2
  have D0 := hid (Blk.at_new w (b := w.heap.size) (t := 32) (cs := #[.int .i64 W, .int .i64 E, .int .i64 T, .int .i64 J, .slice a n c]) rfl)
  have B0 := hid ((Below.refl w.heap.size w).alloc (Nat.le_refl _) (.cells #[.int .i64 W, .int .i64 E, .int .i64 T, .int .i64 J, .slice a n c] 32))
  go_enter Try.func18, Try.ntmps18
  go_wp2_with (refine wpList_load_blk2 (t := 32) rfl rfl rfl Try.underlying32 rfl (by kernel_rfl) D0.out ?_)
  refine (rpfits_any W E T J a a2 c c2 n n2 zs cs _ (RR.out.below B0.out) (R2.out.below B0.out) HN.out HN2.out hl hl2).mono ?_
  rintro e w1 ⟨rfl, hb⟩
  have D1 := hid (D0.out.below hb D0.out.lt)
  have B1 := hid (B0.out.trans (hb.mono B0.out.size))
  clear hb
  by_cases hz : ftErr W E T J zs cs = 0
  rotate_left
  · have hz2 : (ftErr W E T J zs cs != 0) = true := by simpa using hz
    have HZ := hid hz
    clear hz
    go_wp2
    go_ret2
    exact st_no rfl HZ.out B1.out
  have HZ := hid hz
  obtain ⟨hck, hft⟩ := ft_ok hz
  rw [hz]
  clear hz
  have RI := hid (dk_right (chk_ok hck).1)
  have FO := hid (fit_ok hft)
  have ZP : Hid (∀ z ∈ zs, 1 ≤ z ∧ z ≤ 12000) := hid (fun z hz => by have := RI.out.z z hz; have h2 := RI.out.e; have h3 := RI.out.w; unfold us at *; omega)
  have hE : 0 ≤ E := by have := RI.out.e; omega
  have TOT : Hid (E + dot cs zs ≤ 12000 ∧ sumI cs ≤ 12) := hid (by have h1 := RI.out.w; have h2 := RI.out.e; have h3 := RI.out.k; have h4 := FO.out; unfold us at *; omega)
  have NN : n2 = n := by rw [HN.out, HN2.out]; exact FO.out.1
  subst NN
  have c1 := D1.out.cell
  clear hck hft
  go_wp2
  clear c1
  obtain ⟨N1, hN1⟩ : ∃ N1, w1.heap.size = N1 := ⟨_, rfl⟩
  go_loopw [7, 8, 9] (fun u v i wr => ∃ (k : Nat) (x : Int) (Lo : List (List Int)), k ≤ n2 ∧ i = .int .i64 k ∧ v = .int .i64 x ∧ StI E zs cs k x Lo ∧ wr.ownsRow w1.heap.size 57 2 u Lo.length (ints Lo.flatten) ∧ Below w1.heap.size w1 wr) (fun _ _ i _ => n2 - (intOf i).toNat)
  case atStart => exact ⟨0, E, [], Nat.zero_le _, rfl, rfl, sti_0 _ _ hE, own_nil _ _ _ _, Below.refl _ _⟩
  case round =>
    obtain ⟨k, x, Lo, hk, rfl, rfl, hst, hown, hbel⟩ := hrel
    have ST := hid hst
    have OW := hid hown
    have BB := hid hbel
    have D2 := hid (D1.out.below hbel D1.out.lt)
    clear hst hown hbel
    by_cases hlt : k < n2
    · obtain ⟨p1, o1, y, rfl, _, hy, hc⟩ := num_at R2.out hlt
      obtain ⟨p2, o2, z, rfl, _, hz, hcz⟩ := num_at RR.out hlt
      have EC := hid hc
      have EZ := hid hcz
      have HY0 := FO.out.2.1 y (List.mem_of_getElem? hy)
      have HZ0 := ZP.out z (List.mem_of_getElem? hz)
      have e1 := hc _ (B1.out.trans (BB.out.mono B1.out.size))
      have SJ := hid (sti_in ST.out hy hz HY0)
      have hy12 : y ≤ 12 := by
        have h1 := stj_bound SJ.out FO.out.2.1 ZP.out (by omega)
        have h2 := TOT.out
        omega
      clear hc hcz hy hz
      go_wp2
      clear e1
      go_loopw [7, 8, 10] (fun u v i wr => ∃ (j m : Nat) (x : Int) (Lo : List (List Int)), (j : Int) + m = y ∧ i = .int .i64 j ∧ v = .int .i64 x ∧ StJ E zs cs k z m x Lo ∧ wr.ownsRow w1.heap.size 57 2 u Lo.length (ints Lo.flatten) ∧ Below w1.heap.size w1 wr) (fun _ _ i _ => (y - intOf i).toNat)
      case atStart => exact ⟨0, y.toNat, x, Lo, by omega, rfl, rfl, SJ.out, OW.out, BB.out⟩
      case round =>
        clear SJ ST OW BB D2
        obtain ⟨j, m, x, Lo, hjm, rfl, rfl, hst, hown, hbel⟩ := hrel
        have SJ := hid hst
        have OW := hid hown
        have BB := hid hbel
        have B2 := hid (B1.out.trans (hbel.mono B1.out.size))
        have D2 := hid (D1.out.below hbel D1.out.lt)
        have BD := stj_bound hst FO.out.2.1 ZP.out (by omega)
        have T2 := TOT.out
        have x0 := hst.pos
        obtain ⟨Ao, co, rfl, _, _⟩ := own_form hown
        obtain ⟨no, hno⟩ : ∃ no, Lo.length = no := ⟨_, rfl⟩
        have NO := hid hno
        rw [hno] at OW BD ⊢
        have NB : Hid (∀ g, Rw (.slice Ao no co) g → w1.heap.size ≤ g ∧ g < wr.heap.size) := hid (fun g hg => own_blk OW.out g hg)
        clear hst hown hbel hno
        have c2' := D2.out.cell
        have e2' := EC.out _ B2.out
        by_cases hjl : j < y
        · obtain ⟨q, rfl⟩ : ∃ q, m = q + 1 := ⟨m - 1, by omega⟩
          have e3 := EZ.out _ B2.out
          have hb3 := BD.2.2 (by omega)
          have ws : IntKind.i64.wrap (x + z) = x + z := IntWalk.i64_in _ (by omega)
          go_wp2_with (at_builtin; refine wpList_app (n := no) (m := 1) (news := ints [x, z]) infoS Try.underlying22 (by kernel_rfl) (by omega) (by omega) (own_keep (own_base_le OW.out (Nat.zero_le _)) ((Chg.refl Nn _).alloc _) (fun _ _ => id)) (Rds.pairAt _ _ _ _ _ rfl) (ints_one _) (by omega) rfl rfl rfl rfl ?_; intro v6 w6 hown hchg hnew; obtain ⟨A6, c6, rfl, _, _⟩ := own_form hown; have A5 := hid (Below.alloc BB.out BB.out.size (.cells #[.int .i64 x, .int .i64 z] 57)); have B6 := hid (hchg.then_below A5.out (fun j hj hf => by have h1 := NB.out j hf; omega) A5.out.size); have O6 := hid (own_rebase hown (base' := w1.heap.size) (fun g hg => (hnew g hg).elim (fun h => (NB.out g h).1) (fun h => by have h2 := BB.out.size; simp at h; omega))); have c6' := (D1.out.below B6.out D1.out.lt).cell; have e6 := EZ.out _ (B1.out.trans (B6.out.mono B1.out.size)); clear hown hchg hnew)
          go_roundw
          case rel =>
            refine ⟨j + 1, q, x + z, Lo ++ [[x, z]], by omega, by go_num, by go_num, stj_step SJ.out (by omega), ?_, B6.out⟩
            have := O6.out
            rw [List.length_append, NO.out]
            simpa [ints] using this
          case measure => simp [intOf] <;> omega
        · obtain rfl : m = 0 := by omega
          have ST := hid (stj_out SJ.out)
          go_wp2
          go_roundw
          case rel => exact ⟨k + 1, x, Lo, by omega, by go_num, by go_num, ST.out, by rw [NO.out]; exact OW.out, BB.out⟩
          case measure => simp [intOf] <;> omega
    · obtain rfl : k = n2 := by omega
      have LE := hid (sti_end ST.out (by rw [← HN2.out]; exact Nat.le_refl _))
      obtain ⟨Ao, co, rfl, _, _⟩ := own_form OW.out
      go_wp2
      go_ret2
      exact st_ok HZ.out LE.out rfl OW.out (B1.out.trans (BB.out.mono B1.out.size))
set_option linter.unusedSimpArgs false in
set_option maxRecDepth 100000 in
set_option maxHeartbeats 4000000 in
theorem same2_any (a1 a2 : Option Addr) (c1 c2 n1 n2 : Nat) (ra rb : List (List Int)) (w : World) (r1 : Rds Nn w 2 a1 n1 (ints ra.flatten)) (r2 : Rds Nn w 2 a2 n2 (ints rb.flatten)) (t1 : ∀ r ∈ ra, r.length = 2) (t2 : ∀ r ∈ rb, r.length = 2) (e1 : n1 = ra.length) (e2 : n2 = rb.length) (hn : n1 ≤ 1000000) : Calls Try.prog 16 #[.slice a1 n1 c1, .slice a2 n2 c2] w fun e w' => e = .returned (.bool (decide (ra = rb))) ∧ Below w.heap.size w w' := by
  subst e1 e2
  have R1 := hid r1
  have R2 := hid r2
  have T1 := hid t1
  have T2 := hid t2
  clear r1 r2 t1 t2
  by_cases hl : ra.length = rb.length
  · have HL := hid hl
    go_enter Try.func16, Try.ntmps16
    go_wp2
    go_loopw [5] (fun i wr => ∃ k : Nat, k ≤ ra.length ∧ i = .int .i64 k ∧ ra.take k = rb.take k ∧ Below w.heap.size w wr) (fun i _ => ra.length - (intOf i).toNat)
    case atStart => exact ⟨0, Nat.zero_le _, rfl, rfl, Below.refl _ _⟩
    case round =>
      obtain ⟨k, hk, rfl, heq, hbel⟩ := hrel
      have BB := hid hbel
      have EQ := hid heq
      clear hbel heq
      by_cases hlt : k < ra.length
      · obtain ⟨p1, o1, x1, x2, rfl, hp1, hx, hx1⟩ := cells_at R1.out T1.out rfl hlt
        obtain ⟨p2, o2, y1, y2, rfl, hp2, hy, hy1⟩ := cells_at R2.out T2.out rfl (k := k) (by omega)
        have c1' := (hx1 _ BB.out).1
        have c2' := (hx1 _ BB.out).2
        have d1' := (hy1 _ BB.out).1
        have d2' := (hy1 _ BB.out).2
        have HX := hid hx
        have HY := hid hy
        clear hp1 hp2 hx hx1 hy hy1
        by_cases hxy : x1 = y1 ∧ x2 = y2
        · obtain ⟨rfl, rfl⟩ := hxy
          go_wp2_with fail
          go_quiet (fail)
          go_wp2
          go_roundw
          case rel => exact ⟨k + 1, by omega, by go_num, by rw [List.take_add_one, List.take_add_one, EQ.out, HX.out, HY.out], below_drewN BB.out _⟩
          case measure => simp [intOf]; omega
        · have R : Hid (false = decide (ra = rb)) := hid (by
            simp
            intro h
            have h1 := HX.out
            rw [h, HY.out] at h1
            simp at h1
            omega)
          by_cases h1 : x1 = y1
          · subst h1
            have h3 : ¬ x2 = y2 := fun h => hxy ⟨rfl, h⟩
            clear hxy
            go_wp2_with fail
            go_quiet (fail)
            go_wp2
            go_ret
            exact ⟨ret_b R.out, below_drewN BB.out _⟩
          · clear hxy
            go_wp2_with fail
            go_quiet (fail)
            go_wp2
            go_ret
            exact ⟨ret_b R.out, below_drewN BB.out _⟩
      · obtain rfl : k = ra.length := by omega
        have R : Hid (true = decide (ra = rb)) := hid (by
          have := EQ.out
          rw [List.take_of_length_le (Nat.le_refl _), List.take_of_length_le (by omega)] at this
          simp [this])
        go_wp2
        go_ret
        exact ⟨ret_b R.out, BB.out⟩
  · have R : Hid (false = decide (ra = rb)) := hid (by
      simp
      intro h
      exact hl (by rw [h]))
    go_enter Try.func16, Try.ntmps16
    go_wp2
    go_ret
    exact ⟨ret_b R.out, Below.refl _ _⟩

end Go.Proofs.Ytccgbojcghbdcaa
