/- Chapter 38: All, Index, Maximal. -/
import Derived.Test.YtclmjllngcndbaaPn9
namespace Go.Proofs.Ytclmjllngcndbaa
open Go.RowKit

def allV (W E T J : Int) (zs : List Int) : List (List Int) := if chkErr W E T J zs = 0 then pats W E T J zs else []
def AlPost (W E T J : Int) (zs : List Int) (w : World) : Ending → World → Prop := fun e w' => ∃ A c vs, e = .returned (.tuple #[.slice A (allV W E T J zs).length c, .int .i64 (chkErr W E T J zs)]) ∧ Rds Nn w' 1 A (allV W E T J zs).length vs ∧ PRow Nn w' vs (allV W E T J zs) ∧ Below w.heap.size w w'
theorem al_no {W E T J x : Int} {zs : List Int} {w w' : World} (h : x = chkErr W E T J zs) (hx : x ≠ 0) (hb : Below w.heap.size w w') : AlPost W E T J zs w (.returned (.tuple #[.slice none 0 0, .int .i64 x])) w' := by
  subst h
  unfold AlPost allV
  rw [if_neg hx]
  exact ⟨none, 0, [], rfl, Rds.nil _ _ _ _, PRow.nil _ _, hb⟩
theorem al_ok {W E T J : Int} {zs : List Int} {w w' : World} {A : Option Addr} {c : Nat} {vs : List Value} {N m : Nat} (h : chkErr W E T J zs = 0) (hm : 1024 ≤ m) (hN : N = ((pats W E T J zs).take m).length) (hr : Rds Nn w' 1 A ((pats W E T J zs).take m).length vs) (hp : PRow Nn w' vs ((pats W E T J zs).take m)) (hb : Below w.heap.size w w') : AlPost W E T J zs w (.returned (.tuple #[.slice A N c, .int .i64 0])) w' := by
  subst hN
  have hl := (chk_ok h).2
  rw [List.take_of_length_le (by omega)] at hr hp ⊢
  unfold AlPost allV
  rw [if_pos h, h]
  exact ⟨A, c, vs, rfl, hr, hp, hb⟩
set_option linter.unusedSimpArgs false in
set_option maxRecDepth 100000 in
set_option maxHeartbeats 4000000 in
theorem all1_any (W E T J : Int) (a : Option Addr) (c n : Nat) (zs : List Int) (w : World) (r : Rds Nn w 1 a n (ints zs)) (hn : n = zs.length) (hl : n ≤ maxLen) : Calls Try.prog 18 #[.agg #[.int .i64 W, .int .i64 E, .int .i64 T, .int .i64 J, .slice a n c]] w (AlPost W E T J zs w) := by
  have RR := hid r
  have HN := hid hn
  clear r hn
  have D0 := hid (Blk.at_new w (b := w.heap.size) (t := 24) (cs := #[.int .i64 W, .int .i64 E, .int .i64 T, .int .i64 J, .slice a n c]) rfl)
  have B0 := hid ((Below.refl w.heap.size w).alloc (Nat.le_refl _) (.cells #[.int .i64 W, .int .i64 E, .int .i64 T, .int .i64 J, .slice a n c] 24))
  go_enter Try.func18, Try.ntmps18
  go_wp2_with (refine wpList_load_blk2 (t := 24) rfl rfl rfl Try.underlying24 rfl (by kernel_rfl) D0.out ?_)
  refine (check_any W E T J a c n zs _ (RR.out.below B0.out) HN.out hl).mono ?_
  rintro e w1 ⟨rfl, hb⟩
  have D1 := hid (D0.out.below hb D0.out.lt)
  have B1 := hid (B0.out.trans (hb.mono B0.out.size))
  clear hb
  by_cases hz : chkErr W E T J zs = 0
  rotate_left
  · have hz2 : (chkErr W E T J zs != 0) = true := by simpa using hz
    have HZ := hid hz
    clear hz
    go_wp2
    go_ret2
    exact al_no rfl HZ.out B1.out
  have HZ := hid hz
  have HR := hid (dk_right (chk_ok hz).1)
  rw [hz]
  clear hz
  go_wp2_with (refine wpList_load_blk2 (t := 24) rfl rfl rfl Try.underlying24 rfl (by kernel_rfl) D1.out ?_)
  refine (list_any W E T J a c n 1024 zs _ (RR.out.below B1.out) HN.out HR.out (by omega)).mono ?_
  rintro e w2 ⟨u, vs, rfl, hu, hp, hb⟩
  have B2 := hid (B1.out.trans (hb.mono B1.out.size))
  obtain ⟨A, cap, rfl, _, _⟩ := own_form hu
  have RU := hid (Rds.own hu (S := Nn) (fun _ _ => id))
  have PU := hid hp
  clear hu hp hb
  go_wp2
  go_ret2
  exact al_ok HZ.out (Nat.le_refl _) (by simp) RU.out PU.out B2.out
set_option linter.unusedSimpArgs false in
set_option maxRecDepth 100000 in
set_option maxHeartbeats 4000000 in
theorem rall1_any (W E T J : Int) (a : Option Addr) (c n : Nat) (zs : List Int) (w : World) (r : Rds Nn w 1 a n (ints zs)) (hn : n = zs.length) (hl : n ≤ maxLen) : Calls Try.prog 19 #[.agg #[.int .i64 W, .int .i64 E, .int .i64 T, .int .i64 J, .slice a n c]] w (AlPost W E T J zs w) := by
  have RR := hid r
  have HN := hid hn
  clear r hn
  have D0 := hid (Blk.at_new w (b := w.heap.size) (t := 24) (cs := #[.int .i64 W, .int .i64 E, .int .i64 T, .int .i64 J, .slice a n c]) rfl)
  have B0 := hid ((Below.refl w.heap.size w).alloc (Nat.le_refl _) (.cells #[.int .i64 W, .int .i64 E, .int .i64 T, .int .i64 J, .slice a n c] 24))
  go_enter Try.func19, Try.ntmps19
  go_wp2_with (refine wpList_load_blk2 (t := 24) rfl rfl rfl Try.underlying24 rfl (by kernel_rfl) D0.out ?_)
  refine (rcheck_any W E T J a c n zs _ (RR.out.below B0.out) HN.out hl).mono ?_
  rintro e w1 ⟨rfl, hb⟩
  have D1 := hid (D0.out.below hb D0.out.lt)
  have B1 := hid (B0.out.trans (hb.mono B0.out.size))
  clear hb
  by_cases hz : chkErr W E T J zs = 0
  rotate_left
  · have hz2 : (chkErr W E T J zs != 0) = true := by simpa using hz
    have HZ := hid hz
    clear hz
    go_wp2
    go_ret2
    exact al_no rfl HZ.out B1.out
  have HZ := hid hz
  have HR := hid (dk_right (chk_ok hz).1)
  have ub := us_pos HR.out
  have kb := HR.out.k
  have wb := HR.out.w
  have eb := HR.out.e
  rw [hz]
  clear hz
  go_upto_region 4 with fail
  refine wp_region_hand (fun w' => Blk w' w.heap.size 24 #[.int .i64 W, .int .i64 E, .int .i64 T, .int .i64 J, .slice a n c]) (by kernel_rfl) ?_
  simp only [List.length_cons, List.length_nil, Nat.zero_add, Nat.reduceAdd]
  have hS : Blk w1.drew w.heap.size 24 #[.int .i64 W, .int .i64 E, .int .i64 T, .int .i64 J, .slice a n c] := D1.out
  refine take_at (i := 0) (v := .agg #[.int .i64 W, .int .i64 E, .int .i64 T, .int .i64 J, .slice a n c]) rfl rfl (by kernel_rfl) (by kernel_rfl) (by kernel_rfl) (fun _ _ _ h => h) (Or.inl ⟨by rfl, fun wi hSw => exec_loads (p := .pointer (some ⟨w.heap.size, 0, none⟩)) rfl rfl (load_blk hSw Try.underlying24 rfl (by kernel_rfl))⟩) hS ?_
  try simp only [List.setIfInBounds_toArray, List.set_cons_zero, List.set_cons_succ]
  refine take_at (i := 1) (v := ?_) rfl rfl (by kernel_rfl) (by kernel_rfl) (by kernel_rfl) (fun _ _ _ h => h) (Or.inl ⟨by rfl, ?_⟩) hS ?_
  rotate_left
  · intro w hSw; (try dsimp only at hSw); go_simp; try with_reducible rfl
  try simp only [List.setIfInBounds_toArray, List.set_cons_zero, List.set_cons_succ]
  refine take_at (i := 2) (v := ?_) rfl rfl (by kernel_rfl) (by kernel_rfl) (by kernel_rfl) (fun _ _ _ h => h) (Or.inl ⟨by rfl, ?_⟩) hS ?_
  rotate_left
  · intro wi hSw; have ci0 := hSw.cell; go_simp; try with_reducible rfl
  try simp only [List.setIfInBounds_toArray, List.set_cons_zero, List.set_cons_succ]
  refine take_at (i := 3) (v := .agg #[.int .i64 W, .int .i64 E, .int .i64 T, .int .i64 J, .slice a n c]) rfl rfl (by kernel_rfl) (by kernel_rfl) (by kernel_rfl) (fun _ _ _ h => h) (Or.inl ⟨by rfl, fun wi hSw => exec_loads (p := .pointer (some ⟨w.heap.size, 0, none⟩)) rfl rfl (load_blk hSw Try.underlying24 rfl (by kernel_rfl))⟩) hS ?_
  try simp only [List.setIfInBounds_toArray, List.set_cons_zero, List.set_cons_succ]
  refine wpAnyH_ready (rs := [4]) (by kernel_rfl) (by simp) ?_
  refine AllReadyH.cons rfl (fun K hK => ?_) AllReadyH.nil
  go_simp
  (go_at_call 32; refine (rusable_any W E T J _ _ (by omega) (by omega)).mono ?_; rintro e w2 ⟨rfl, hb⟩; have D2 := hid (D1.out.below (show Below w1.heap.size w1 w2 from (Below.drew (Below.refl _ _)).trans hb) D1.out.lt); have B2 := hid (B1.out.trans ((show Below w1.heap.size w1 w2 from (Below.drew (Below.refl _ _)).trans hb).mono B1.out.size)); clear hb hS)
  refine hK.out _ _ D2.out (fun hS => ?_)
  clear hK K
  try simp only [Act.put, List.setIfInBounds_toArray, List.set_cons_zero, List.set_cons_succ]
  refine wpAnyH_ready (rs := [5]) (by kernel_rfl) (by simp) ?_
  refine AllReadyH.cons rfl (fun K hK => ?_) AllReadyH.nil
  go_simp
  (refine (all_any W E T J a c n 1024 zs HN.out HR.out (by omega) n 0 [] J (us W E) none none 0 0 [] [] _ (RR.out.below B2.out) (Rds.nil _ _ _ _) (Rds.nil _ _ _ _) (PRow.nil _ _) (Nat.zero_add n) rfl (by intro x hx; cases hx) (by simp [sumI]) (by simp [dot]) (by omega) (by omega) (by simp)).mono ?_; rintro e w3 ⟨A, cap, vs, rfl, hr3, hp3, hb⟩; rw [pats_all] at hr3 hp3 ⊢; have D3 := hid (D2.out.below hb D2.out.lt); have B3 := hid (B2.out.trans (hb.mono B2.out.size)); have R3 := hid hr3; have P3 := hid hp3; clear hb hS hr3 hp3)
  refine hK.out _ _ D3.out (fun hS => ?_)
  clear hK K
  try simp only [Act.put, List.setIfInBounds_toArray, List.set_cons_zero, List.set_cons_succ]
  refine take_at (i := 6) (v := ?_) rfl rfl (by kernel_rfl) (by kernel_rfl) (by kernel_rfl) (fun _ _ _ h => h) (Or.inl ⟨by rfl, ?_⟩) hS ?_
  rotate_left
  · intro w hSw; (try dsimp only at hSw); go_simp; try with_reducible rfl
  try simp only [List.setIfInBounds_toArray, List.set_cons_zero, List.set_cons_succ]
  refine take_at (i := 7) (v := ?_) rfl rfl (by kernel_rfl) (by kernel_rfl) (by kernel_rfl) (fun _ _ _ h => h) (Or.inl ⟨by rfl, ?_⟩) hS ?_
  rotate_left
  · intro w hSw; (try dsimp only at hSw); go_simp; try with_reducible rfl
  try simp only [List.setIfInBounds_toArray, List.set_cons_zero, List.set_cons_succ]
  refine wpAnyH_done (by kernel_rfl) ?_ _
  simp only [Sure, Exit.then]
  clear hS
  go_wp2
  go_ret2
  exact al_ok HZ.out (by omega) (by simp) R3.out P3.out B3.out
def IxPost (W E T J : Int) (zs cs : List Int) (w : World) : Ending → World → Prop := fun e w' => ∃ x : Int, e = .returned (.tuple #[.int .i64 x, .int .i64 (ftErr W E T J zs cs)]) ∧ (ftErr W E T J zs cs = 0 → ∃ i : Nat, x = i ∧ (pats W E T J zs)[i]? = some cs) ∧ (ftErr W E T J zs cs ≠ 0 → x = 0) ∧ Below w.heap.size w w'
theorem ft_split {W E T J : Int} {zs cs : List Int} (h : ftErr W E T J zs cs = 0) : chkErr W E T J zs = 0 ∧ fitErr W E T J zs cs = 0 := by
  have hck : chkErr W E T J zs = 0 := Classical.byContradiction fun e => by unfold ftErr at h; rw [if_pos e] at h; exact e h
  refine ⟨hck, ?_⟩
  unfold ftErr at h
  rw [if_neg (fun e => e hck)] at h
  exact h
theorem pat_lens {W E T J : Int} {zs l : List Int} (hr : Right W E T J zs) (h : l ∈ pats W E T J zs) : l.length ≤ 8 := by
  have := (fit_ok ((mem_pats hr).1 h)).1
  have := hr.n
  omega
set_option linter.unusedSimpArgs false in
set_option maxRecDepth 100000 in
set_option maxHeartbeats 4000000 in
theorem index_any (W E T J : Int) (a a2 : Option Addr) (c c2 n n2 : Nat) (zs cs : List Int) (w : World) (r : Rds Nn w 1 a n (ints zs)) (r2 : Rds Nn w 1 a2 n2 (ints cs)) (hn : n = zs.length) (hn2 : n2 = cs.length) (hl : n ≤ maxLen) (hl2 : n2 ≤ 1000000) : Calls Try.prog 21 #[.agg #[.int .i64 W, .int .i64 E, .int .i64 T, .int .i64 J, .slice a n c], .slice a2 n2 c2] w (IxPost W E T J zs cs w) := by
  have RR := hid r
  have R2 := hid r2
  have HN := hid hn
  have HN2 := hid hn2
  clear r r2 hn hn2
  have D0 := hid (Blk.alloc (Blk.at_new w (b := w.heap.size) (t := 24) (cs := #[.int .i64 W, .int .i64 E, .int .i64 T, .int .i64 J, .slice a n c]) rfl) (.cells #[.slice a2 n2 c2] 22))
  have C0 := hid (Blk.at_new (w.alloc (.cells #[.int .i64 W, .int .i64 E, .int .i64 T, .int .i64 J, .slice a n c] 24)) (b := w.heap.size + 1) (t := 22) (cs := #[.slice a2 n2 c2]) (by simp))
  have B0 := hid (((Below.refl w.heap.size w).alloc (Nat.le_refl _) (.cells #[.int .i64 W, .int .i64 E, .int .i64 T, .int .i64 J, .slice a n c] 24)).alloc (by simp) (.cells #[.slice a2 n2 c2] 22))
  have hmf : ∀ (fn : Fn) (first cap : Array Value) (w : World), (Instr.makeFunc fn first cap).run Try.prog w = .ok (.func fn first cap) w := fun _ _ _ _ => rfl
  go_enter Try.func21, Try.ntmps21
  go_upto_region 1 with fail
  generalize ((w.alloc (.cells #[.int .i64 W, .int .i64 E, .int .i64 T, .int .i64 J, .slice a n c] 24)).alloc (.cells #[.slice a2 n2 c2] 22)) = wa at D0 C0 B0 ⊢
  have cC := C0.out.cell
  go_wp2_with (refine wpList_load_blk2 (t := 24) rfl rfl rfl Try.underlying24 rfl (by kernel_rfl) D0.out ?_)
  refine (pfits_any W E T J a a2 c c2 n n2 zs cs _ (RR.out.below B0.out) (R2.out.below B0.out) HN.out HN2.out hl hl2).mono ?_
  rintro e w1 ⟨rfl, hb⟩
  have D1 := hid (D0.out.below hb D0.out.lt)
  have C1 := hid (C0.out.below hb C0.out.lt)
  have B1 := hid (B0.out.trans (hb.mono B0.out.size))
  clear hb cC
  by_cases hz : ftErr W E T J zs cs = 0
  rotate_left
  · have hz2 : (ftErr W E T J zs cs != 0) = true := by simpa using hz
    have HZ := hid hz
    clear hz
    go_wp2
    go_ret2
    exact ⟨0, rfl, fun e => absurd e HZ.out, fun _ => rfl, B1.out⟩
  have HZ := hid hz
  obtain ⟨hck, hfe⟩ := ft_split hz
  have HR := hid (dk_right (chk_ok hck).1)
  have HL := hid (chk_ok hck).2
  have MEM := hid ((mem_pats HR.out).2 hfe)
  rw [hz]
  clear hz hck hfe
  go_wp2_with (refine wpList_load_blk2 (t := 24) rfl rfl rfl Try.underlying24 rfl (by kernel_rfl) D1.out ?_)
  refine (list_any W E T J a c n 1024 zs _ (RR.out.below B1.out) HN.out HR.out (by omega)).mono ?_
  rintro e w2 ⟨u, vs, rfl, hu, hp, hb⟩
  rw [List.take_of_length_le HL.out] at hu hp
  have C2 := hid (C1.out.below hb C1.out.lt)
  have B2 := hid (B1.out.trans (hb.mono B1.out.size))
  obtain ⟨A, cap, rfl, _, _⟩ := own_form hu
  have RU := hid (Rds.own hu (S := Nn) (fun _ _ => id))
  have PU := hid hp
  clear hu hp hb
  go_wp2_with fail
  refine (idxf_any A a2 (w.heap.size + 1) cap c2 _ n2 vs (pats W E T J zs) cs _ RU.out PU.out (R2.out.below B2.out) rfl HN2.out (by have := HL.out; omega) (fun l hl => by have := pat_lens HR.out hl; omega) C2.out).mono ?_
  rintro e w3 ⟨x, rfl, hx, hb⟩
  have B3 := hid (B2.out.trans (hb.mono B2.out.size))
  have HX := hid hx
  clear hb hx
  go_wp2
  go_ret2
  refine ⟨x, by rw [HZ.out]; rfl, fun _ => ?_, fun e => absurd HZ.out e, B3.out⟩
  rcases HX.out with h | ⟨_, h⟩
  · exact h
  · exact absurd MEM.out h
set_option linter.unusedSimpArgs false in
set_option maxRecDepth 100000 in
set_option maxHeartbeats 4000000 in
theorem rindex_any (W E T J : Int) (a a2 : Option Addr) (c c2 n n2 : Nat) (zs cs : List Int) (w : World) (r : Rds Nn w 1 a n (ints zs)) (r2 : Rds Nn w 1 a2 n2 (ints cs)) (hn : n = zs.length) (hn2 : n2 = cs.length) (hl : n ≤ maxLen) (hl2 : n2 ≤ 1000000) : Calls Try.prog 22 #[.agg #[.int .i64 W, .int .i64 E, .int .i64 T, .int .i64 J, .slice a n c], .slice a2 n2 c2] w (IxPost W E T J zs cs w) := by
  have RR := hid r
  have R2 := hid r2
  have HN2 := hid hn2
  have HN := hid hn
  clear r r2 hn hn2
  have D0 := hid (Blk.at_new w (b := w.heap.size) (t := 24) (cs := #[.int .i64 W, .int .i64 E, .int .i64 T, .int .i64 J, .slice a n c]) rfl)
  have B0 := hid ((Below.refl w.heap.size w).alloc (Nat.le_refl _) (.cells #[.int .i64 W, .int .i64 E, .int .i64 T, .int .i64 J, .slice a n c] 24))
  go_enter Try.func22, Try.ntmps22
  go_wp2_with (refine wpList_load_blk2 (t := 24) rfl rfl rfl Try.underlying24 rfl (by kernel_rfl) D0.out ?_)
  refine (rpfits_any W E T J a a2 c c2 n n2 zs cs _ (RR.out.below B0.out) (R2.out.below B0.out) HN.out HN2.out hl hl2).mono ?_
  rintro e w1 ⟨rfl, hb⟩
  have D1 := hid (D0.out.below hb D0.out.lt)
  have B1 := hid (B0.out.trans (hb.mono B0.out.size))
  clear hb
  by_cases hz : ftErr W E T J zs cs = 0
  rotate_left
  · have hz2 : (ftErr W E T J zs cs != 0) = true := by simpa using hz
    have HZ := hid hz
    clear hz
    go_wp2
    go_ret2
    exact ⟨0, rfl, fun e => absurd e HZ.out, fun _ => rfl, B1.out⟩
  have HZ := hid hz
  obtain ⟨hck, hfe⟩ := ft_split hz
  have HR := hid (dk_right (chk_ok hck).1)
  have HL := hid (chk_ok hck).2
  have MEM := hid ((mem_pats HR.out).2 hfe)
  have AV := hid (show allV W E T J zs = pats W E T J zs from by unfold allV; rw [if_pos hck])
  rw [hz]
  clear hz hck hfe
  go_wp2_with (refine wpList_load_blk2 (t := 24) rfl rfl rfl Try.underlying24 rfl (by kernel_rfl) D1.out ?_)
  refine (rall1_any W E T J a c n zs _ (RR.out.below B1.out) HN.out hl).mono ?_
  rintro e w2 ⟨A, cap, vs, rfl, hr3, hp3, hb⟩
  rw [AV.out] at hr3 hp3 ⊢
  have B2 := hid (B1.out.trans (hb.mono B1.out.size))
  have RU := hid hr3
  have PU := hid hp3
  obtain ⟨N, hN⟩ : ∃ N, (pats W E T J zs).length = N := ⟨_, rfl⟩
  have NN := hid hN
  rw [hN] at RU ⊢
  have hN2 : N ≤ 1024 := by rw [← hN]; exact HL.out
  clear hr3 hp3 hb hN
  go_wp2
  go_loopw [9] (fun i wr => ∃ k : Nat, k ≤ N ∧ i = .int .i64 k ∧ (∀ j, j < k → (pats W E T J zs)[j]? ≠ some cs) ∧ Below w2.heap.size w2 wr) (fun i _ => N - (intOf i).toNat)
  case atStart => exact ⟨0, Nat.zero_le _, rfl, fun j hj => by omega, Below.refl _ _⟩
  case round =>
    obtain ⟨k, hk, rfl, hno, hbel⟩ := hrel
    have NO := hid hno
    have BB := hid hbel
    clear hno hbel
    by_cases hlt : k < N
    · obtain ⟨l1, A1, k1, hx, hv1, hq1⟩ := PU.out.at_ (k := k) (by rw [NN.out]; exact hlt)
      obtain ⟨p1, o1, rfl, _, hc1⟩ := val_cell RU.out hlt hv1
      have e1 := hc1 _ BB.out
      have Q1 := hid hq1
      have HX := hid hx
      have LB1 := hid (pat_lens HR.out (List.mem_of_getElem? hx))
      clear hc1 hx hq1 hv1
      go_wp2_with fail
      refine (ints_any _ _ _ _ _ _ l1 cs _ (Q1.out.below BB.out) ((R2.out.below B2.out).below BB.out) rfl HN2.out (by have := LB1.out; omega)).mono ?_
      rintro e w5 ⟨rfl, hb⟩
      have B5 := hid (BB.out.trans (hb.mono BB.out.size))
      clear hb e1
      by_cases hxy : l1 = cs
      · rw [show decide (l1 = cs) = true by simp [hxy]]
        subst hxy
        go_wp2
        go_ret2
        exact ⟨k, by rw [HZ.out]; rfl, fun _ => ⟨k, rfl, HX.out⟩, fun e => absurd HZ.out e, B2.out.trans (B5.out.mono B2.out.size)⟩
      · rw [show decide (l1 = cs) = false by simp [hxy]]
        go_wp2
        go_roundw
        case rel =>
          refine ⟨k + 1, by omega, by go_num, fun j hj h => ?_, B5.out⟩
          by_cases hjk : j = k
          · subst hjk
            rw [HX.out] at h
            injection h with h
            exact hxy h
          · exact NO.out j (by omega) h
        case measure => simp [intOf]; omega
    · exfalso
      obtain ⟨j, hj⟩ := List.mem_iff_getElem?.1 MEM.out
      have := (List.getElem?_eq_some_iff.1 hj).1
      rw [NN.out] at this
      exact NO.out j (by omega) hj
end Go.Proofs.Ytclmjllngcndbaa
