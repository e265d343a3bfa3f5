/- Chapter 39: Set of both. -/
import Derived.Test.YtccgbojcghbdcaaSl8
namespace Go.Proofs.Ytccgbojcghbdcaa
open Go.RowKit

theorem infoC : (Try.prog.info? 47).map (fun i => (i.zero, i.size, i.bytes)) = some (some (.agg #[.int .i64 0, .int .i64 0, .bool false, .slice none 0 0]), 4, 48) := by kernel_rfl
def setBad (L U K : Int) : Bool := decide (L < 1 ∨ 17179869184 < L ∨ U < 0 ∨ L < U ∨ K < 1 ∨ 17179869184 < K)
def setErr (W L : Int) (l : List (List Int)) (U K : Int) : Int := if slErr W l ≠ 0 then slErr W l else if setBad L U K = true then 1 else if L - U < K then 21 else 0
def setOf (L U K : Int) (l : List (List Int)) : List Ch := l.map (fun s => (s.getD 0 0, s.getD 1 0, false, [(L - 1 - U, K, decide (1 < K))]))
def setL (W L : Int) (l : List (List Int)) (U K : Int) : List Ch := if setErr W L l U K = 0 then setOf L U K l else []
theorem set_bad {L U K : Int} (h : setBad L U K = true) : L < 1 ∨ (1 ≤ L ∧ 17179869184 < L) ∨ ((1 ≤ L ∧ L ≤ 17179869184) ∧ U < 0) ∨ ((1 ≤ L ∧ L ≤ 17179869184) ∧ 0 ≤ U ∧ L < U) ∨ ((1 ≤ L ∧ L ≤ 17179869184) ∧ (0 ≤ U ∧ U ≤ L) ∧ K < 1) ∨ ((1 ≤ L ∧ L ≤ 17179869184) ∧ (0 ≤ U ∧ U ≤ L) ∧ 1 ≤ K ∧ 17179869184 < K) := by
  simp only [setBad, decide_eq_true_eq] at h
  omega
theorem set_good {L U K : Int} (h : ¬ setBad L U K = true) : (1 ≤ L ∧ L ≤ 17179869184) ∧ (0 ≤ U ∧ U ≤ L) ∧ (1 ≤ K ∧ K ≤ 17179869184) := by
  simp only [setBad, decide_eq_true_eq] at h
  omega
def SetPost (W L : Int) (l : List (List Int)) (U K : Int) (w : World) : Ending → World → Prop := fun e w' => ∃ A c vs, e = .returned (.tuple #[.slice A (setL W L l U K).length c, .int .i64 (setErr W L l U K)]) ∧ Rds Nn w' 4 A (setL W L l U K).length vs ∧ ChRow Nn w' vs (setL W L l U K) ∧ Below w.heap.size w w'
section
variable {W L U K x : Int} {l : List (List Int)} {w w' : World}
theorem se_s (h : slErr W l ≠ 0) : slErr W l = setErr W L l U K := by unfold setErr; rw [if_pos h]
theorem se_1 (h : slErr W l = 0) (h2 : setBad L U K = true) : 1 = setErr W L l U K := by unfold setErr; rw [if_neg (fun e => e h), if_pos h2]
theorem se_21 (h : slErr W l = 0) (h2 : ¬ setBad L U K = true) (h3 : L - U < K) : 21 = setErr W L l U K := by unfold setErr; rw [if_neg (fun e => e h), if_neg h2, if_pos h3]
theorem se_0 (h : slErr W l = 0) (h2 : ¬ setBad L U K = true) (h3 : ¬ L - U < K) : setErr W L l U K = 0 := by unfold setErr; rw [if_neg (fun e => e h), if_neg h2, if_neg h3]
theorem set_no (h : x = setErr W L l U K) (hx : x ≠ 0) (hb : Below w.heap.size w w') : SetPost W L l U K w (.returned (.tuple #[.slice none 0 0, .int .i64 x])) w' := by
  subst h
  unfold SetPost setL
  rw [if_neg hx]
  exact ⟨none, 0, [], rfl, Rds.nil _ _ _ _, ChRow.nil _ _, hb⟩
theorem set_ok {A : Option Addr} {c N m : Nat} {vs : List Value} (h : setErr W L l U K = 0) (hm : m = l.length) (ho : w'.ownsRow N 47 4 (.slice A m c) m vs) (hp : ChRow Nn w' vs (setOf L U K l)) (hb : Below w.heap.size w w') : SetPost W L l U K w (.returned (.tuple #[.slice A m c, .int .i64 0])) w' := by
  subst hm
  unfold SetPost setL
  rw [if_pos h, h]
  refine ⟨A, c, vs, ?_, ?_, hp, hb⟩
  · rw [show (setOf L U K l).length = l.length by simp [setOf]]
  · rw [show (setOf L U K l).length = l.length by simp [setOf]]; exact Rds.own ho (fun _ _ => id)
theorem set_take {k : Nat} {p q : Int} (h : l[k]? = some [p, q]) : (setOf L U K l).take (k + 1) = (setOf L U K l).take k ++ [(p, q, false, [(L - 1 - U, K, decide (1 < K))])] := take_more (by simp [setOf, h])
end
theorem Rds.oneAt (w : World) (b : Nat) (cs : List Value) (t : TypeId) (sz : Nat) (hb : b = w.heap.size) (hl : cs.length = sz) : Rds Nn (w.alloc (.cells cs.toArray t)) sz (some ⟨b, 0, none⟩) 1 cs := by
  subst hb
  refine ⟨by omega, fun _ => ⟨_, rfl, by simp, id, fun j u hu => ?_⟩⟩
  rw [add_at, (Blk.new w t cs.toArray).cell]
  simpa using hu
theorem ChRow.app {w w1 : World} {u u' : Value} {vs : List Value} {L : List Ch} (h : ChRow (Rw u) w vs L) (hc : Chg (Rw u) w w1) (hn : Newer w u u') : ChRow (Rw u') w1 vs L := by
  have h1 : ChRow (fun b => Rw u b ∨ Rw u' b) w vs L := h.mono (fun b hb e => e.elim id (fun e => (hn b e).elim id (fun e => by omega)))
  exact (h1.keep (hc.mono (fun _ _ e => .inl e))).mono (fun _ _ e => .inr e)
theorem Rds.low {S : Nat → Prop} {w w' : World} {sz n : Nat} {A : Option Addr} {xs : List Value} (h : Rds Nn w sz A n xs) (hb : Below w.heap.size w w') (hs : ∀ g, S g → w.heap.size ≤ g) : Rds S w' sz A n xs :=
  ⟨h.1, fun hn => by
    obtain ⟨ad, e, h1, _, _⟩ := h.2 hn
    obtain ⟨ad', e', h1', _, h3⟩ := (h.below hb).2 hn
    rw [e] at e'
    injection e' with e'
    subst e'
    exact ⟨ad, e, h1', fun hq => by have := hs _ hq; omega, h3⟩⟩
theorem Rds.at_blk {w : World} {sz n : Nat} {ad : Addr} {xs : List Value} (h : Rds Nn w sz (some ad) n xs) : Rds (fun g => g ≠ ad.block) w sz (some ad) n xs :=
  ⟨h.1, fun hn => by
    obtain ⟨ad', e, h1, _, h3⟩ := h.2 hn
    injection e with e
    subst e
    exact ⟨ad, rfl, h1, fun hq => hq rfl, h3⟩⟩
/-- One element of a row of equal ones. -/
theorem rep_sub {w : World} {base : Nat} {e : TypeId} {A : Option Addr} {c n k sz : Nat} {E : List Value} (h : w.ownsRow base e sz (.slice A n c) n (List.replicate n E).flatten) (hE : E.length = sz) (hk : k < n) : ∃ g, A = some ⟨g, 0, none⟩ ∧ base ≤ g ∧ g < w.heap.size ∧ Rds Nn w sz (some ⟨g, k * sz, none⟩) 1 E := by
  obtain ⟨g, c', hv, _, _⟩ := own_pos h (by omega)
  have hA : A = some ⟨g, 0, none⟩ := by injection hv
  subst hA
  have hg := own_blk h g rfl
  have r := Rds.own (S := Nn) h (fun _ _ => id)
  refine ⟨g, rfl, hg.1, hg.2, by omega, fun _ => ⟨_, rfl, hg.2, id, fun j u hu => ?_⟩⟩
  obtain ⟨ad, e1, _, _, hx⟩ := r.2 (by omega)
  injection e1 with e1
  subst e1
  have hj : j < sz := by have := (List.getElem?_eq_some_iff.1 hu).1; omega
  have e2 : (List.replicate n E).flatten[k * sz + j]? = some u := by
    rw [flatten_get sz (by omega) _ (fun r hr => by rw [(List.mem_replicate.1 hr).2, hE])]
    have h1 : (k * sz + j) / sz = k := by rw [Nat.mul_comm, Nat.mul_add_div (by omega), Nat.div_eq_of_lt hj]; rfl
    have h2 : (k * sz + j) % sz = j := by rw [Nat.mul_comm, Nat.mul_add_mod]; exact Nat.mod_eq_of_lt hj
    rw [h1, h2, List.getElem?_replicate, if_pos hk]
    exact hu
  have := hx _ u e2
  rw [add_at] at this ⊢
  rw [← this]
  congr 2
  omega
set_option linter.unusedSimpArgs false in
set_option maxRecDepth 100000 in
set_option maxHeartbeats 4000000 in
theorem set_any (W L : Int) (a : Option Addr) (c n : Nat) (l : List (List Int)) (U K : Int) (w : World) (r : Rds Nn w 2 a n (ints l.flatten)) (t : ∀ s ∈ l, s.length = 2) (hn : n = l.length) (hl : n ≤ maxLen) : Calls Try.prog 31 #[.int .i64 W, .int .i64 L, .slice a n c, .agg #[.int .i64 U, .int .i64 K]] w (SetPost W L l U K w) := by
  have R1 := hid r
  have T := hid t
  have HN := hid hn
  clear r t hn
  have D0 := hid (Blk.at_new w (b := w.heap.size) (t := 67) (cs := #[.int .i64 U, .int .i64 K]) rfl)
  have B0 := hid ((Below.refl w.heap.size w).alloc (Nat.le_refl _) (.cells #[.int .i64 U, .int .i64 K] 67))
  go_enter Try.func31, Try.ntmps31
  go_wp2_with fail
  refine (scheck_any W a c n l _ (R1.out.below B0.out) T.out HN.out hl).mono ?_
  rintro e w1 ⟨rfl, hb⟩
  have D1 := hid (D0.out.below hb D0.out.lt)
  have B1 := hid (B0.out.trans (hb.mono B0.out.size))
  clear hb
  by_cases hz : slErr W l = 0
  rotate_left
  · have hz2 : (slErr W l != 0) = true := by simpa using hz
    have SE := hid (se_s (L := L) (U := U) (K := K) hz)
    have HZ := hid hz
    clear hz
    go_wp2
    go_ret2
    exact set_no SE.out HZ.out B1.out
  have HZ := hid hz
  have n12 : n ≤ 12 := by rw [HN.out]; exact (sl_ok hz).2.1
  rw [hz]
  clear hz
  have c1 := D1.out.cell
  by_cases hbad : setBad L U K = true
  · have SE := hid (se_1 HZ.out hbad)
    rcases set_bad hbad with h | ⟨h, h1⟩ | ⟨⟨h, h1⟩, h2⟩ | ⟨⟨h, h1⟩, h2, h3⟩ | ⟨⟨h, h1⟩, ⟨h2, h3⟩, h4⟩ | ⟨⟨h, h1⟩, ⟨h2, h3⟩, h4, h5⟩
    all_goals
      clear hbad
      go_wp2
      go_ret2
      exact set_no SE.out (by decide) B1.out
  obtain ⟨⟨g1, g2⟩, ⟨g3, g4⟩, g5, g6⟩ := set_good hbad
  have wLU : IntKind.i64.wrap (L - U) = L - U := IntWalk.i64_in _ (by omega)
  by_cases hlen : L - U < K
  · have SE := hid (se_21 HZ.out hbad hlen)
    clear hbad
    go_wp2
    go_ret2
    exact set_no SE.out (by decide) B1.out
  have SE := hid (se_0 HZ.out hbad hlen)
  clear hbad
  go_upto_region 8 with fail
  have w1L : IntKind.i64.wrap (L - 1) = L - 1 := IntWalk.i64_in _ (by omega)
  have w2L : IntKind.i64.wrap (L - 1 - U) = L - 1 - U := IntWalk.i64_in _ (by omega)
  have RU := hid (Rds.oneAt w1 w1.heap.size [.int .i64 (L - 1 - U), .int .i64 K, .bool (decide (1 < K))] 69 3 rfl rfl)
  have hlt9 : ((n : Int) < 9223372036854775808) := by omega
  go_wp2_with fail
  refine (repeat_any [.int .i64 (L - 1 - U), .int .i64 K, .bool (decide (1 < K))] _ _ n _ RU.out (by intro u hu; simp at hu; rcases hu with rfl | rfl | rfl <;> rfl) (by omega)).mono ?_
  rintro e w2 ⟨u, rfl, hu, hb⟩
  obtain ⟨Ar, cr, rfl, hcr, _⟩ := own_form hu
  have UU := hid hu
  have B2 := hid (Below.trans (B1.out.alloc B1.out.size (.cells [.int .i64 (L - 1 - U), .int .i64 K, .bool (decide (1 < K))].toArray 69)) (hb.mono (Nat.le_trans B1.out.size (by simp))))
  have hle2 : w1.heap.size ≤ w2.heap.size := Nat.le_trans (by simp) hb.size
  clear hu hb RU c1
  go_wp2
  go_loopw [12, 74] (fun u i wr => ∃ (k : Nat) (vs : List Value), k ≤ n ∧ i = .int .i64 k ∧ wr.ownsRow w2.heap.size 47 4 u k vs ∧ ChRow (Rw u) wr vs ((setOf L U K l).take k) ∧ Below w2.heap.size w2 wr) (fun _ i _ => n - (intOf i).toNat)
  case atStart => exact ⟨0, [], Nat.zero_le _, rfl, own_nil _ _ _ _, ChRow.nil _ _, Below.refl _ _⟩
  case round =>
    obtain ⟨k, vs, hk, rfl, hown, hch, hbel⟩ := hrel
    have OW := hid hown
    have CH := hid hch
    have BB := hid hbel
    obtain ⟨Ao, co, rfl, _, _⟩ := own_form hown
    clear hown hch hbel
    by_cases hlt : k < n
    · obtain ⟨p1, o1, x, y, rfl, _, hpq, hc⟩ := cells_at R1.out T.out HN.out hlt
      obtain ⟨e1, e2⟩ := hc _ (B2.out.trans (BB.out.mono B2.out.size))
      obtain ⟨gr, rfl, _, hgr, hsub⟩ := rep_sub (k := k) UU.out rfl hlt
      have SUB := hid hsub
      have LE : Hid ((setOf L U K l).take k ++ [(x, y, false, [(L - 1 - U, K, decide (1 < K))])] = (setOf L U K l).take (k + 1)) := hid (by rw [set_take hpq])
      have wk1 : IntKind.i64.wrap ((k : Int) + 1) = k + 1 := IntWalk.i64_in _ (by omega)
      have hkn : ¬ n = k := by omega
      have hk01 : ((0 : Int) ≤ (k : Int) + 1) := by omega
      have hcr2 : n ≤ cr := hcr
      have hck : ¬ cr = k := by omega
      have hlc : ((k : Int) + 1 ≤ cr) := by omega
      clear hc hpq hsub
      have CX := (Blk.at_new wr (b := wr.heap.size) (t := 57) (cs := #[.int .i64 x, .int .i64 y]) rfl).cell
      go_upto_region 13 with fail
      refine wp_region_hand (fun w' => Blk w' wr.heap.size 57 #[.int .i64 x, .int .i64 y]) (by kernel_rfl) ?_
      simp only [List.length_cons, List.length_nil, Nat.zero_add, Nat.reduceAdd]
      have hS : Blk (wr.alloc (.cells #[.int .i64 x, .int .i64 y] 57)).drew wr.heap.size 57 #[.int .i64 x, .int .i64 y] := Blk.drew (Blk.at_new wr rfl)
      refine take_at (i := 0) (v := ?_) rfl rfl (by kernel_rfl) (by kernel_rfl) (by kernel_rfl) (fun _ _ _ h => h) (Or.inl ⟨by rfl, ?_⟩) hS ?_
      rotate_left
      · intro w hSw; (try dsimp only at hSw); go_simp; try with_reducible rfl
      try simp only [List.setIfInBounds_toArray, List.set_cons_zero, List.set_cons_succ]
      refine take_at (i := 1) (v := ?_) rfl rfl (by kernel_rfl) (by kernel_rfl) (by kernel_rfl) (fun _ _ _ h => h) (Or.inl ⟨by rfl, ?_⟩) hS ?_
      rotate_left
      · intro w hSw; (try dsimp only at hSw); go_simp; try with_reducible rfl
      try simp only [List.setIfInBounds_toArray, List.set_cons_zero, List.set_cons_succ]
      refine take_at (i := 2) (v := ?_) rfl rfl (by kernel_rfl) (by kernel_rfl) (by kernel_rfl) (fun _ _ _ h => h) (Or.inl ⟨by rfl, ?_⟩) hS ?_
      rotate_left
      · intro wi hSw; have ci0 := hSw.cell; go_simp; try with_reducible rfl
      try simp only [List.setIfInBounds_toArray, List.set_cons_zero, List.set_cons_succ]
      refine take_at (i := 3) (v := ?_) rfl rfl (by kernel_rfl) (by kernel_rfl) (by kernel_rfl) (fun _ _ _ h => h) (Or.inl ⟨by rfl, ?_⟩) hS ?_
      rotate_left
      · intro w hSw; (try dsimp only at hSw); go_simp; try with_reducible rfl
      try simp only [List.setIfInBounds_toArray, List.set_cons_zero, List.set_cons_succ]
      refine take_at (i := 4) (v := ?_) rfl rfl (by kernel_rfl) (by kernel_rfl) (by kernel_rfl) (fun _ _ _ h => h) (Or.inl ⟨by rfl, ?_⟩) hS ?_
      rotate_left
      · intro wi hSw; have ci0 := hSw.cell; go_simp; try with_reducible rfl
      try simp only [List.setIfInBounds_toArray, List.set_cons_zero, List.set_cons_succ]
      refine take_at (i := 5) (v := ?_) rfl rfl (by kernel_rfl) (by kernel_rfl) (by kernel_rfl) (fun _ _ _ h => h) (Or.inl ⟨by rfl, ?_⟩) hS ?_
      rotate_left
      · intro w hSw; (try dsimp only at hSw); go_simp; try with_reducible rfl
      try simp only [List.setIfInBounds_toArray, List.set_cons_zero, List.set_cons_succ]
      refine take_at (i := 6) (v := ?_) rfl rfl (by kernel_rfl) (by kernel_rfl) (by kernel_rfl) (fun _ _ _ h => h) (Or.inl ⟨by rfl, ?_⟩) hS ?_
      rotate_left
      · intro w hSw; (try dsimp only at hSw); go_simp; try with_reducible rfl
      try simp only [List.setIfInBounds_toArray, List.set_cons_zero, List.set_cons_succ]
      refine take_at (i := 7) (v := ?_) rfl rfl (by kernel_rfl) (by kernel_rfl) (by kernel_rfl) (fun _ _ _ h => h) (Or.inl ⟨by rfl, ?_⟩) hS ?_
      rotate_left
      · intro w hSw; (try dsimp only at hSw); go_simp; try with_reducible rfl
      try simp only [List.setIfInBounds_toArray, List.set_cons_zero, List.set_cons_succ]
      refine take_at (i := 8) (v := ?_) rfl rfl (by kernel_rfl) (by kernel_rfl) (by kernel_rfl) (fun _ _ _ h => h) (Or.inl ⟨by rfl, ?_⟩) hS ?_
      rotate_left
      · intro w hSw; (try dsimp only at hSw); go_simp; try with_reducible rfl
      try simp only [List.setIfInBounds_toArray, List.set_cons_zero, List.set_cons_succ]
      refine take_at (i := 9) (v := ?_) rfl rfl (by kernel_rfl) (by kernel_rfl) (by kernel_rfl) (fun _ _ _ h => h) (Or.inl ⟨by rfl, ?_⟩) hS ?_
      rotate_left
      · intro w hSw; (try dsimp only at hSw); go_simp; try with_reducible rfl
      try simp only [List.setIfInBounds_toArray, List.set_cons_zero, List.set_cons_succ]
      refine take_at (i := 10) (v := ?_) rfl rfl (by kernel_rfl) (by kernel_rfl) (by kernel_rfl) (fun _ _ _ h => h) (Or.inl ⟨by rfl, ?_⟩) hS ?_
      rotate_left
      · intro w hSw; (try dsimp only at hSw); go_simp; try with_reducible rfl
      try simp only [List.setIfInBounds_toArray, List.set_cons_zero, List.set_cons_succ]
      refine take_at (i := 11) (v := ?_) rfl rfl (by kernel_rfl) (by kernel_rfl) (by kernel_rfl) (fun _ _ _ h => h) (Or.inl ⟨by rfl, ?_⟩) hS ?_
      rotate_left
      · intro w hSw; (try dsimp only at hSw); go_simp; try with_reducible rfl
      try simp only [List.setIfInBounds_toArray, List.set_cons_zero, List.set_cons_succ]
      refine take_at (i := 12) (v := ?_) rfl rfl (by kernel_rfl) (by kernel_rfl) (by kernel_rfl) (fun _ _ _ h => h) (Or.inl ⟨by rfl, ?_⟩) hS ?_
      rotate_left
      · intro w hSw; (try dsimp only at hSw); go_simp; try with_reducible rfl
      try simp only [List.setIfInBounds_toArray, List.set_cons_zero, List.set_cons_succ]
      refine wpAnyH_ready (rs := [13]) (by kernel_rfl) (by simp) ?_
      refine AllReadyH.cons rfl (fun K hK => ?_) AllReadyH.nil
      go_simp
      refine hK.out _ _ (Blk.alloc hS _) (fun hS => ?_)
      clear hK K
      try simp only [Act.put, List.setIfInBounds_toArray, List.set_cons_zero, List.set_cons_succ]
      refine wpAnyH_ready (rs := [14]) (by kernel_rfl) (by simp) ?_
      refine AllReadyH.cons rfl (fun KK hK => ?_) AllReadyH.nil
      have DD := hid (Below.drew (Below.alloc (Below.alloc (Below.refl wr.heap.size wr) (Nat.le_refl _) (.cells #[.int .i64 x, .int .i64 y] 57)) (by simp) (.cells #[.int .i64 x, .int .i64 y, .bool false, .slice (some ⟨gr, k * 3, none⟩) 1 1] 47)))
      refine step_app (n := k) (v := .slice Ao k co) (xs := vs) (m := 1) (S := Nn) (news := [.int .i64 x, .int .i64 y, .bool false, .slice (some ⟨gr, k * 3, none⟩) 1 1]) infoC Try.underlying37 (by kernel_rfl) (by omega) (by omega) (own_base_le (own_keep OW.out (Chg.of_below (S := Nn) DD.out (fun b hb hB => by omega)) (fun _ _ => id)) (Nat.zero_le _)) ((Rds.oneAt (wr.alloc (.cells #[.int .i64 x, .int .i64 y] 57)) (wr.heap.size + 1) [.int .i64 x, .int .i64 y, .bool false, .slice (some ⟨gr, k * 3, none⟩) 1 1] 47 4 (by simp) rfl).below (Below.drew (Below.refl _ _))) (by intro u hu; simp at hu; rcases hu with rfl | rfl | rfl | rfl <;> rfl) (by omega) rfl rfl rfl rfl ?_
      intro v6 w6 hown hchg hnew
      obtain ⟨A6, c6, rfl, _, _⟩ := own_form hown
      have NR : Hid (∀ g, Rw (.slice Ao k co) g → w2.heap.size ≤ g) := hid (fun g hg => (own_blk OW.out g hg).1)
      have A5 := hid (BB.out.trans (DD.out.mono BB.out.size))
      have B6 := hid (hchg.then_below A5.out (fun j hj hf => by have h1 := NR.out j hf; omega) A5.out.size)
      have N6 : Hid (∀ g, Rw (.slice A6 (k + 1) c6) g → w2.heap.size ≤ g) := hid (fun g hg => (hnew g hg).elim (fun h => NR.out g h) (fun h => Nat.le_trans A5.out.size h))
      have O6 := hid (own_rebase hown (base' := w2.heap.size) N6.out)
      have C6 := hid (((CH.out.keep (Chg.of_below (S := Rw (.slice Ao k co)) DD.out (fun b hb hB => by omega))).app hchg hnew).snoc (l := x) (d := y) (t := false) (m := [(L - 1 - U, K, decide (1 < K))]) (c := 1) (Rds.low SUB.out B6.out N6.out))
      rw [LE.out] at C6
      have S6 := hid (hS.keep hchg (fun e => by have := (own_blk OW.out _ e).2; omega))
      clear hown hchg hnew
      refine hK.out _ _ S6.out (fun hS => ?_)
      clear hK KK
      try simp only [Act.put, List.setIfInBounds_toArray, List.set_cons_zero, List.set_cons_succ]
      refine take_at (i := 15) (v := ?_) rfl rfl (by kernel_rfl) (by kernel_rfl) (by kernel_rfl) (fun _ _ _ h => h) (Or.inl ⟨by rfl, ?_⟩) hS ?_
      rotate_left
      · intro w hSw; (try dsimp only at hSw); go_simp; try with_reducible rfl
      try simp only [List.setIfInBounds_toArray, List.set_cons_zero, List.set_cons_succ]
      refine wpAnyH_done (by kernel_rfl) ?_ _
      simp only [Sure, Exit.then]
      clear hS
      simp only [Exit.inBlock, Exit.then]
      go_wp2
      go_roundw
      case rel => exact ⟨k + 1, _, by omega, by go_num, O6.out, C6.out, B6.out⟩
      case measure => simp [intOf]; omega
    · obtain rfl : k = n := by omega
      have CE : Hid (ChRow Nn wr vs (setOf L U K l)) := hid (by have := CH.out; rw [List.take_of_length_le (by rw [show (setOf L U K l).length = l.length by simp [setOf], ← HN.out]; exact Nat.le_refl _)] at this; exact this.mono (fun _ _ h => h.elim))
      go_wp2
      go_ret2
      exact set_ok SE.out HN.out OW.out CE.out (B2.out.trans (BB.out.mono B2.out.size))
set_option linter.unusedSimpArgs false in
set_option maxRecDepth 100000 in
set_option maxHeartbeats 4000000 in
theorem rset_any (W L : Int) (a : Option Addr) (c n : Nat) (l : List (List Int)) (U K : Int) (w : World) (r : Rds Nn w 2 a n (ints l.flatten)) (t : ∀ s ∈ l, s.length = 2) (hn : n = l.length) (hl : n ≤ maxLen) : Calls Try.prog 20 #[.int .i64 W, .int .i64 L, .slice a n c, .agg #[.int .i64 U, .int .i64 K]] w (SetPost W L l U K w) := by
  have R1 := hid r
  have T := hid t
  have HN := hid hn
  clear r t hn
  have D0 := hid (Blk.at_new w (b := w.heap.size) (t := 42) (cs := #[.int .i64 U, .int .i64 K]) rfl)
  have B0 := hid ((Below.refl w.heap.size w).alloc (Nat.le_refl _) (.cells #[.int .i64 U, .int .i64 K] 42))
  go_enter Try.func20, Try.ntmps20
  go_wp2_with fail
  refine (rscheck_any W a c n l _ (R1.out.below B0.out) T.out HN.out hl).mono ?_
  rintro e w1 ⟨rfl, hb⟩
  have D1 := hid (D0.out.below hb D0.out.lt)
  have B1 := hid (B0.out.trans (hb.mono B0.out.size))
  clear hb
  by_cases hz : slErr W l = 0
  rotate_left
  · have hz2 : (slErr W l != 0) = true := by simpa using hz
    have SE := hid (se_s (L := L) (U := U) (K := K) hz)
    have HZ := hid hz
    clear hz
    go_wp2
    go_ret2
    exact set_no SE.out HZ.out B1.out
  have HZ := hid hz
  have n12 : n ≤ 12 := by rw [HN.out]; exact (sl_ok hz).2.1
  rw [hz]
  clear hz
  have c1 := D1.out.cell
  by_cases hbad : setBad L U K = true
  · have SE := hid (se_1 HZ.out hbad)
    rcases set_bad hbad with h | ⟨h, h1⟩ | ⟨⟨h, h1⟩, h2⟩ | ⟨⟨h, h1⟩, h2, h3⟩ | ⟨⟨h, h1⟩, ⟨h2, h3⟩, h4⟩ | ⟨⟨h, h1⟩, ⟨h2, h3⟩, h4, h5⟩
    all_goals
      clear hbad
      go_wp2
      go_ret2
      exact set_no SE.out (by decide) B1.out
  obtain ⟨⟨g1, g2⟩, ⟨g3, g4⟩, g5, g6⟩ := set_good hbad
  have wLU : IntKind.i64.wrap (L - U) = L - U := IntWalk.i64_in _ (by omega)
  by_cases hlen : L - U < K
  · have SE := hid (se_21 HZ.out hbad hlen)
    clear hbad
    go_wp2
    go_ret2
    exact set_no SE.out (by decide) B1.out
  have SE := hid (se_0 HZ.out hbad hlen)
  clear hbad
  go_upto_region 8 with fail
  have w1L : IntKind.i64.wrap (L - 1) = L - 1 := IntWalk.i64_in _ (by omega)
  have w2L : IntKind.i64.wrap (L - 1 - U) = L - 1 - U := IntWalk.i64_in _ (by omega)
  have hlt9 : ((n : Int) < 9223372036854775808) := by omega
  clear c1
  go_wp2
  go_loopw [11, 12] (fun u i wr => ∃ (k : Nat) (vs : List Value), k ≤ n ∧ i = .int .i64 k ∧ wr.ownsRow w1.heap.size 47 4 u k vs ∧ ChRow (Rw u) wr vs ((setOf L U K l).take k) ∧ Below w1.heap.size w1 wr) (fun _ i _ => n - (intOf i).toNat)
  case atStart => exact ⟨0, [], Nat.zero_le _, rfl, own_nil _ _ _ _, ChRow.nil _ _, Below.refl _ _⟩
  case round =>
    obtain ⟨k, vs, hk, rfl, hown, hch, hbel⟩ := hrel
    have OW := hid hown
    have CH := hid hch
    have BB := hid hbel
    obtain ⟨Ao, co, rfl, _, _⟩ := own_form hown
    clear hown hch hbel
    by_cases hlt : k < n
    · obtain ⟨p1, o1, x, y, rfl, _, hpq, hc⟩ := cells_at R1.out T.out HN.out hlt
      have HC := hid hc
      have BW := hid (B1.out.trans (BB.out.mono B1.out.size))
      have LE : Hid ((setOf L U K l).take k ++ [(x, y, false, [(L - 1 - U, K, decide (1 < K))])] = (setOf L U K l).take (k + 1)) := hid (by rw [set_take hpq])
      have wk1 : IntKind.i64.wrap ((k : Int) + 1) = k + 1 := IntWalk.i64_in _ (by omega)
      clear hc hpq
      have cw := (D1.out.below (BB.out) D1.out.lt).cell
      go_upto_region 13 with fail
      refine wp_region_hand (fun w' => Below w.heap.size w w') (by kernel_rfl) ?_
      simp only [List.length_cons, List.length_nil, Nat.zero_add, Nat.reduceAdd]
      have hS : Below w.heap.size w (wr.alloc (.cells #[.int .i64 (L - 1 - U), .int .i64 K, .bool (decide (1 < K))] 69)).drew := Below.drew (Below.alloc BW.out BW.out.size _)
      refine take_at (i := 0) (v := ?_) rfl rfl (by kernel_rfl) (by kernel_rfl) (by kernel_rfl) (fun _ _ _ h => h) (Or.inl ⟨by rfl, ?_⟩) hS ?_
      rotate_left
      · intro w hSw; (try dsimp only at hSw); go_simp; try with_reducible rfl
      try simp only [List.setIfInBounds_toArray, List.set_cons_zero, List.set_cons_succ]
      refine take_at (i := 1) (v := ?_) rfl rfl (by kernel_rfl) (by kernel_rfl) (by kernel_rfl) (fun _ _ _ h => h) (Or.inl ⟨by rfl, ?_⟩) hS ?_
      rotate_left
      · intro w hSw; (try dsimp only at hSw); go_simp; try with_reducible rfl
      try simp only [List.setIfInBounds_toArray, List.set_cons_zero, List.set_cons_succ]
      refine take_at (i := 2) (v := ?_) rfl rfl (by kernel_rfl) (by kernel_rfl) (by kernel_rfl) (fun _ _ _ h => h) (Or.inl ⟨by rfl, ?_⟩) hS ?_
      rotate_left
      · intro w hSw; (try dsimp only at hSw); go_simp; try with_reducible rfl
      try simp only [List.setIfInBounds_toArray, List.set_cons_zero, List.set_cons_succ]
      refine take_at (i := 3) (v := ?_) rfl rfl (by kernel_rfl) (by kernel_rfl) (by kernel_rfl) (fun _ _ _ h => h) (Or.inl ⟨by rfl, ?_⟩) hS ?_
      rotate_left
      · intro w hSw; (try dsimp only at hSw); go_simp; try with_reducible rfl
      try simp only [List.setIfInBounds_toArray, List.set_cons_zero, List.set_cons_succ]
      refine take_at (i := 4) (v := ?_) rfl rfl (by kernel_rfl) (by kernel_rfl) (by kernel_rfl) (fun _ _ _ h => h) (Or.inl ⟨by rfl, ?_⟩) hS ?_
      rotate_left
      · intro w hSw; (try dsimp only at hSw); go_simp; try with_reducible rfl
      try simp only [List.setIfInBounds_toArray, List.set_cons_zero, List.set_cons_succ]
      refine take_at (i := 5) (v := ?_) rfl rfl (by kernel_rfl) (by kernel_rfl) (by kernel_rfl) (fun _ _ _ h => h) (Or.inl ⟨by rfl, ?_⟩) hS ?_
      rotate_left
      · intro wi hSw; have ci0 := (HC.out _ hSw).1; go_simp; try with_reducible rfl
      try simp only [List.setIfInBounds_toArray, List.set_cons_zero, List.set_cons_succ]
      refine take_at (i := 6) (v := ?_) rfl rfl (by kernel_rfl) (by kernel_rfl) (by kernel_rfl) (fun _ _ _ h => h) (Or.inl ⟨by rfl, ?_⟩) hS ?_
      rotate_left
      · intro w hSw; (try dsimp only at hSw); go_simp; try with_reducible rfl
      try simp only [List.setIfInBounds_toArray, List.set_cons_zero, List.set_cons_succ]
      refine take_at (i := 7) (v := ?_) rfl rfl (by kernel_rfl) (by kernel_rfl) (by kernel_rfl) (fun _ _ _ h => h) (Or.inl ⟨by rfl, ?_⟩) hS ?_
      rotate_left
      · intro w hSw; (try dsimp only at hSw); go_simp; try with_reducible rfl
      try simp only [List.setIfInBounds_toArray, List.set_cons_zero, List.set_cons_succ]
      refine take_at (i := 8) (v := ?_) rfl rfl (by kernel_rfl) (by kernel_rfl) (by kernel_rfl) (fun _ _ _ h => h) (Or.inl ⟨by rfl, ?_⟩) hS ?_
      rotate_left
      · intro w hSw; (try dsimp only at hSw); go_simp; try with_reducible rfl
      try simp only [List.setIfInBounds_toArray, List.set_cons_zero, List.set_cons_succ]
      refine take_at (i := 9) (v := ?_) rfl rfl (by kernel_rfl) (by kernel_rfl) (by kernel_rfl) (fun _ _ _ h => h) (Or.inl ⟨by rfl, ?_⟩) hS ?_
      rotate_left
      · intro w hSw; (try dsimp only at hSw); go_simp; try with_reducible rfl
      try simp only [List.setIfInBounds_toArray, List.set_cons_zero, List.set_cons_succ]
      refine take_at (i := 10) (v := ?_) rfl rfl (by kernel_rfl) (by kernel_rfl) (by kernel_rfl) (fun _ _ _ h => h) (Or.inl ⟨by rfl, ?_⟩) hS ?_
      rotate_left
      · intro wi hSw; have ci0 := (HC.out _ hSw).2; go_simp; try with_reducible rfl
      try simp only [List.setIfInBounds_toArray, List.set_cons_zero, List.set_cons_succ]
      refine take_at (i := 11) (v := ?_) rfl rfl (by kernel_rfl) (by kernel_rfl) (by kernel_rfl) (fun _ _ _ h => h) (Or.inl ⟨by rfl, ?_⟩) hS ?_
      rotate_left
      · intro w hSw; (try dsimp only at hSw); go_simp; try with_reducible rfl
      try simp only [List.setIfInBounds_toArray, List.set_cons_zero, List.set_cons_succ]
      refine take_at (i := 12) (v := ?_) rfl rfl (by kernel_rfl) (by kernel_rfl) (by kernel_rfl) (fun _ _ _ h => h) (Or.inl ⟨by rfl, ?_⟩) hS ?_
      rotate_left
      · intro w hSw; (try dsimp only at hSw); go_simp; try with_reducible rfl
      try simp only [List.setIfInBounds_toArray, List.set_cons_zero, List.set_cons_succ]
      refine wpAnyH_ready (rs := [13]) (by kernel_rfl) (by simp) ?_
      refine AllReadyH.cons rfl (fun K hK => ?_) AllReadyH.nil
      go_simp
      refine hK.out _ _ (Below.alloc hS hS.size _) (fun hS => ?_)
      clear hK K
      try simp only [Act.put, List.setIfInBounds_toArray, List.set_cons_zero, List.set_cons_succ]
      refine wpAnyH_ready (rs := [14]) (by kernel_rfl) (by simp) ?_
      refine AllReadyH.cons rfl (fun KK hK => ?_) AllReadyH.nil
      have DD := hid (Below.drew (Below.alloc (Below.refl (wr.alloc (.cells #[.int .i64 (L - 1 - U), .int .i64 K, .bool (decide (1 < K))] 69)).heap.size (wr.alloc (.cells #[.int .i64 (L - 1 - U), .int .i64 K, .bool (decide (1 < K))] 69))) (Nat.le_refl _) (.cells #[.int .i64 x, .int .i64 y, .bool false, .slice (some ⟨wr.heap.size, 0, none⟩) 1 1] 47)))
      have DE := hid ((Below.alloc (Below.refl wr.heap.size wr) (Nat.le_refl _) (.cells #[.int .i64 (L - 1 - U), .int .i64 K, .bool (decide (1 < K))] 69)).trans (DD.out.mono (by simp)))
      have RR0 := hid (Rds.oneAt wr wr.heap.size [.int .i64 (L - 1 - U), .int .i64 K, .bool (decide (1 < K))] 69 3 rfl rfl)
      refine step_app (n := k) (v := .slice Ao k co) (xs := vs) (m := 1) (S := Nn) (news := [.int .i64 x, .int .i64 y, .bool false, .slice (some ⟨wr.heap.size, 0, none⟩) 1 1]) infoC Try.underlying37 (by kernel_rfl) (by omega) (by omega) (own_base_le (own_keep OW.out (Chg.of_below (S := Nn) DE.out (fun b hb hB => by omega)) (fun _ _ => id)) (Nat.zero_le _)) ((Rds.oneAt (wr.alloc (.cells #[.int .i64 (L - 1 - U), .int .i64 K, .bool (decide (1 < K))] 69)) (wr.heap.size + 1) [.int .i64 x, .int .i64 y, .bool false, .slice (some ⟨wr.heap.size, 0, none⟩) 1 1] 47 4 (by simp) rfl).below (Below.drew (Below.refl _ _))) (by intro u hu; simp at hu; rcases hu with rfl | rfl | rfl | rfl <;> rfl) (by omega) rfl rfl rfl rfl ?_
      intro v6 w6 hown hchg hnew
      obtain ⟨A6, c6, rfl, _, _⟩ := own_form hown
      have NR : Hid (∀ g, Rw (.slice Ao k co) g → w1.heap.size ≤ g) := hid (fun g hg => (own_blk OW.out g hg).1)
      have NL : Hid (∀ g, Rw (.slice Ao k co) g → g < wr.heap.size) := hid (fun g hg => (own_blk OW.out g hg).2)
      have A5 := hid (BB.out.trans (DE.out.mono BB.out.size))
      have B6 := hid (hchg.then_below A5.out (fun j hj hf => by have h1 := NR.out j hf; omega) A5.out.size)
      have N6 : Hid (∀ g, Rw (.slice A6 (k + 1) c6) g → w1.heap.size ≤ g ∧ g ≠ wr.heap.size) := hid (fun g hg => (hnew g hg).elim (fun h => by have h1 := NR.out g h; have h2 := NL.out g h; omega) (fun h => by have h1 := A5.out.size; have h2 := DD.out.size; have h3 : (wr.alloc (.cells #[.int .i64 (L - 1 - U), .int .i64 K, .bool (decide (1 < K))] 69)).heap.size = wr.heap.size + 1 := (by simp); omega))
      have O6 := hid (own_rebase hown (base' := w1.heap.size) (fun g hg => (N6.out g hg).1))
      have R6 := hid (((RR0.out.at_blk.below DD.out).keep (hchg.mono (fun g _ hg => by have h2 := NL.out g hg; simp; omega))).mono (S' := Rw (.slice A6 (k + 1) c6)) (fun g _ hg => (N6.out g hg).2))
      have C6 := hid (((CH.out.keep (Chg.of_below (S := Rw (.slice Ao k co)) DE.out (fun b hb hB => by omega))).app hchg hnew).snoc (l := x) (d := y) (t := false) (m := [(L - 1 - U, K, decide (1 < K))]) (c := 1) R6.out)
      rw [LE.out] at C6
      have S6 := hid (B1.out.trans (B6.out.mono B1.out.size))
      clear hown hchg hnew
      refine hK.out _ _ S6.out (fun hS => ?_)
      clear hK KK
      try simp only [Act.put, List.setIfInBounds_toArray, List.set_cons_zero, List.set_cons_succ]
      refine take_at (i := 15) (v := ?_) rfl rfl (by kernel_rfl) (by kernel_rfl) (by kernel_rfl) (fun _ _ _ h => h) (Or.inl ⟨by rfl, ?_⟩) hS ?_
      rotate_left
      · intro w hSw; (try dsimp only at hSw); go_simp; try with_reducible rfl
      try simp only [List.setIfInBounds_toArray, List.set_cons_zero, List.set_cons_succ]
      refine wpAnyH_done (by kernel_rfl) ?_ _
      simp only [Sure, Exit.then]
      clear hS
      simp only [Exit.inBlock, Exit.then]
      go_wp2
      go_roundw
      case rel => exact ⟨k + 1, _, by omega, by go_num, O6.out, C6.out, B6.out⟩
      case measure => simp [intOf]; omega
    · obtain rfl : k = n := by omega
      have CE : Hid (ChRow Nn wr vs (setOf L U K l)) := hid (by have := CH.out; rw [List.take_of_length_le (by rw [show (setOf L U K l).length = l.length by simp [setOf], ← HN.out]; exact Nat.le_refl _)] at this; exact this.mono (fun _ _ h => h.elim))
      go_wp2
      go_ret2
      exact set_ok SE.out HN.out OW.out CE.out (B1.out.trans (BB.out.mono B1.out.size))
end Go.Proofs.Ytccgbojcghbdcaa
