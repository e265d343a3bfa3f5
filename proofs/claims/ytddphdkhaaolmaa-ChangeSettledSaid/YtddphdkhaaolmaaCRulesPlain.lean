/- Chapter 32: longer paths, and what the first step with enough readings in a row is: the plain part of ChangeSettled, ChangeRules and ChangeBegins. -/
import Derived.Test.YtddphdkhaaolmaaCNonePlain
namespace Go.Proofs.Ytddphdkhaaolmaa
open Go.RowKit

theorem CP.long {b : CP} {o v s d : Int} {k k' : Nat} (h : b.rErr o v (List.replicate k s) (List.replicate k d) = 0) (hk : 1 ≤ k) (hk' : k' ≤ 512) : b.rErr o v (List.replicate k' s) (List.replicate k' d) = 0 := by
  obtain ⟨h1, h2, h3, h4, h5⟩ := run_ok h
  refine run_mk h1 (by simp; omega) (by simp) h4 ?_
  intro p hp
  have hz : ∀ q : Nat, (List.replicate q s).zip (List.replicate q d) = List.replicate q (s, d) := fun q => zip_rep _ _ _ _
  rw [hz] at hp
  have e := (List.mem_replicate.1 hp).2
  subst e
  refine h5 _ ?_
  rw [hz]
  exact List.mem_replicate.2 ⟨by omega, rfl⟩
theorem wlong {b m : CP} {c oB oM vB vM : Int} {r d : List Int} {k k' : Nat} (h : wErr b m c oB oM vB vM (List.replicate k r) (List.replicate k d) = 0) (hk : 1 ≤ k) (hk' : k' ≤ 512) : wErr b m c oB oM vB vM (List.replicate k' r) (List.replicate k' d) = 0 := by
  obtain ⟨h1, h2, h3, h4, h5⟩ := wErr_ok h
  rw [col_rep, col_rep] at h4 h5
  rw [← wErr_m h1 (by simp; omega) (by simp) (by rw [col_rep, col_rep]; exact CP.long h4 hk hk'), col_rep, col_rep]
  exact CP.long h5 hk hk'
section
variable {b m : CP} {cp : Int} {f t : GR}
theorem path_take {n n' er : Int} {l l' : List (List Int)} (h : PSpec b m cp f t n er l) (k : PSpec b m cp f t n' 0 l') (h0 : 0 ≤ n) (hn : n ≤ n') : er = 0 ∧ l = l'.take n.toNat ∧ l.length = n.toNat ∧ l'.length = n'.toNat := by
  obtain ⟨hc, ho'⟩ := ps_ok k rfl
  have ho : okPath f t n := ⟨ho'.1, ho'.2.1, h0, by have := ho'.2.2.2; omega⟩
  obtain ⟨oB, oM, vB, vM, hr, e1, e2⟩ := h.2.2 hc ho
  obtain ⟨oB', oM', vB', vM', kr, k1, k2⟩ := k.2.2 hc ho'
  obtain ⟨rfl, rfl, rfl, rfl, _⟩ := rest_same hr kr
  have tk := wtake k1.symm n.toNat
  rw [List.take_replicate, List.take_replicate, Nat.min_eq_left (by omega)] at tk
  obtain ⟨t1, t2⟩ := tk
  rw [t1] at e1
  exact ⟨e1, by rw [e2, k2, t2], by rw [e2, (wRows_ok t1).2, List.length_replicate], by rw [k2, (wRows_ok k1.symm).2, List.length_replicate]⟩
theorem path_long {n n' er : Int} {l l' : List (List Int)} (h : PSpec b m cp f t n 0 l) (k : PSpec b m cp f t n' er l') (h1 : 1 ≤ n) (h2 : 0 ≤ n') (h3 : n' ≤ 512) : er = 0 := by
  obtain ⟨hc, ho⟩ := ps_ok h rfl
  have ho' : okPath f t n' := ⟨ho.1, ho.2.1, h2, h3⟩
  obtain ⟨oB, oM, vB, vM, hr, e1, e2⟩ := h.2.2 hc ho
  obtain ⟨oB', oM', vB', vM', kr, k1, k2⟩ := k.2.2 hc ho'
  obtain ⟨rfl, rfl, rfl, rfl, _⟩ := rest_same hr kr
  rw [k1]
  exact wlong e1.symm (by omega) (by omega)
theorem path_len {n : Int} {l : List (List Int)} (h : PSpec b m cp f t n 0 l) : l.length = n.toNat := by
  obtain ⟨hc, ho⟩ := ps_ok h rfl
  exact (path_take h h ho.2.2.1 (Int.le_refl _)).2.2.1
/-- An error of a path of a valid web is not ErrLimit. -/
theorem path_32 {n er : Int} {l : List (List Int)} (h : PSpec b m cp f t n er l) (hc : chkW b m cp = 0) : er ≠ 32 := by
  intro he
  subst he
  by_cases ho : okPath f t n
  · obtain ⟨oB, oM, vB, vM, hr, e1, e2⟩ := h.2.2 hc ho
    obtain ⟨c1, c2, c3⟩ := chkW_ok hc
    have key : ∀ (q : CP) (o v : Int) (S D : List Int), q.err = 0 → q.rErr o v S D ≠ 32 := by
      intro q o v S D hq h32
      unfold CP.rErr runErr at h32
      unfold CP.err at hq
      rw [hq] at h32
      repeat' split at h32
      all_goals omega
    unfold wErr at e1
    repeat' split at e1
    all_goals first | omega | exact key _ _ _ _ _ c1 e1.symm | exact key _ _ _ _ _ c2 e1.symm | contradiction
  · have := (h.2.1 hc ho).1
    omega
end
section
variable {g : GR}
theorem scan_bd {H : Int} (hH : 1 ≤ H) : ∀ (l : List (List Int)) (row i : Int), 0 ≤ row → row < H → scan g H row i l = 0 ∨ (i + (H - row) ≤ scan g H row i l ∧ scan g H row i l ≤ i + l.length)
  | [], row, i, _, _ => .inl rfl
  | x :: l, row, i, h0, hr => by
    rw [scan, List.length_cons]
    by_cases hm : meetB g (x.getD 0 0) (x.getD 1 0) = true
    · rw [if_pos hm]
      by_cases hh : H ≤ row + 1
      · rw [if_pos hh]
        exact .inr (by omega)
      · rw [if_neg hh]
        rcases scan_bd hH l (row + 1) (i + 1) (by omega) (by omega) with h | h
        · exact .inl h
        · exact .inr (by omega)
    · rw [if_neg hm, if_neg (by omega)]
      rcases scan_bd hH l 0 (i + 1) (by omega) (by omega) with h | h
      · exact .inl h
      · exact .inr (by omega)
theorem scan_mono {H H' : Int} (hH : 1 ≤ H) (hh : H ≤ H') : ∀ (l : List (List Int)) (row i : Int), 0 ≤ i → 0 ≤ row → row < H → scan g H' row i l = 0 ∨ (scan g H row i l ≠ 0 ∧ scan g H row i l ≤ scan g H' row i l)
  | [], row, i, _, _, _ => .inl rfl
  | x :: l, row, i, hi, h0, hr => by
    rw [scan, scan]
    by_cases hm : meetB g (x.getD 0 0) (x.getD 1 0) = true
    · rw [if_pos hm]
      by_cases h1 : H ≤ row + 1
      · rw [if_pos h1]
        by_cases h2 : H' ≤ row + 1
        · rw [if_pos h2]
          exact .inr (by omega)
        · rw [if_neg h2]
          rcases scan_bd (g := g) (H := H') (by omega) l (row + 1) (i + 1) (by omega) (by omega) with h | h
          · exact .inl h
          · exact .inr (by omega)
      · rw [if_neg h1, if_neg (by omega)]
        exact scan_mono hH hh l (row + 1) (i + 1) (by omega) (by omega) (by omega)
    · rw [if_neg hm, if_neg (by omega), if_neg (by omega)]
      exact scan_mono hH hh l 0 (i + 1) (by omega) (by omega) (by omega)
theorem scan_take {H : Int} : ∀ (l : List (List Int)) (row i : Int) (k : Nat), scan g H row i (l.take k) = 0 ∨ scan g H row i l = scan g H row i (l.take k)
  | [], row, i, k => .inl (by rw [List.take_nil]; rfl)
  | x :: l, row, i, 0 => .inl rfl
  | x :: l, row, i, k + 1 => by
    rw [List.take_succ_cons, scan, scan]
    by_cases hm : H ≤ (if meetB g (x.getD 0 0) (x.getD 1 0) = true then row + 1 else 0)
    · rw [if_pos hm, if_pos hm]
      exact .inr rfl
    · rw [if_neg hm, if_neg hm]
      exact scan_take l _ _ k
end
section
variable {b m : CP} {cp H M S v er : Int} {f t : GR}
theorem ss_ok (h : SSpec b m cp f t H M S v 0) : ∃ l, PSpec b m cp f t M 0 l ∧ v = scan t H 0 0 l ∧ scan t H 0 0 l ≠ 0 ∧ l.length = M.toNat := by
  obtain ⟨pe, l, hp, h3, h4⟩ := h.2 (ss_ru h)
  have hz : pe = 0 := by
    by_cases hz : pe = 0
    · exact hz
    · exact absurd (h3 hz).2.symm hz
  subst hz
  obtain ⟨e1, e2⟩ := h4 rfl
  refine ⟨l, hp, e1, ?_, path_len hp⟩
  intro hq
  rw [if_pos hq] at e2
  cases e2
theorem ru_mk {H M S : Int} (h : (1 ≤ H ∧ H ≤ 512) ∧ (1 ≤ M ∧ M ≤ 512) ∧ 1 ≤ S ∧ S ≤ 86400) : ruErr H M S = 0 := by
  unfold ruErr
  rw [if_pos (by omega)]
/-- The plain law of ChangeRules. -/
theorem rules_plain {a : Int} {x y e1 e2 : Int} (h : SSpec b m cp f t H M S v 0) (ha : 0 ≤ a) (k : SSpec b m cp f t (min 512 (H + a)) M S x e1) (j : SSpec b m cp f t H (min 512 (M + a)) S y e2) : H ≤ v ∧ v ≤ M ∧ (e1 = 32 ∨ e1 = 0 ∧ v ≤ x) ∧ e2 = 0 ∧ y = v := by
  obtain ⟨r1, r2, r3, r4, r5, r6⟩ := ru_ok (ss_ru h)
  obtain ⟨l, hp, hv, hne, hl⟩ := ss_ok h
  have bd := scan_bd (g := t) r1 l 0 0 (by omega) (by omega)
  have b1 : H ≤ v ∧ v ≤ M := by omega
  refine ⟨b1.1, b1.2, ?_, ?_⟩
  · obtain ⟨pe, l', hp', _, k4⟩ := k.2 (ru_mk (by omega))
    obtain ⟨rfl, rfl⟩ := path_same hp hp'
    obtain ⟨rfl, rfl⟩ := k4 rfl
    have mo := scan_mono (g := t) (H' := min 512 (H + a)) r1 (by omega) l 0 0 (by omega) (by omega) (by omega)
    by_cases hz : scan t (min 512 (H + a)) 0 0 l = 0
    · rw [if_pos hz]
      exact .inl rfl
    · rw [if_neg hz]
      exact .inr ⟨rfl, by omega⟩
  · obtain ⟨pe, l', hp', _, k4⟩ := j.2 (ru_mk (by omega))
    obtain rfl := path_long hp hp' (by omega) (by omega) (by omega)
    obtain ⟨_, ht, _, _⟩ := path_take hp hp' (by omega) (by omega)
    obtain ⟨rfl, rfl⟩ := k4 rfl
    have st := scan_take (g := t) (H := H) l' 0 0 M.toNat
    rw [← ht] at st
    have e : scan t H 0 0 l' = scan t H 0 0 l := by omega
    rw [e, if_neg hne]
    exact ⟨rfl, hv.symm⟩
/-- Of ChangeSettled: there is no number beside an error, and with ErrLimit the path stands. -/
theorem settled_zero (h : SSpec b m cp f t H M S v er) (hn : ¬ (er = 0 ∨ er = 32) ∨ ruErr H M S ≠ 0 ∨ chkW b m cp ≠ 0) : v = 0 := by
  by_cases hr : ruErr H M S = 0
  rotate_left
  · exact (h.1 hr).1
  obtain ⟨pe, l, hp, h3, h4⟩ := h.2 hr
  by_cases hz : pe = 0
  · subst hz
    have hc := (ps_ok hp rfl).1
    obtain ⟨e1, e2⟩ := h4 rfl
    split at e2
    · rename_i h5; rw [e1]; exact h5
    · omega
  · exact (h3 hz).1
theorem settled_path {pe : Int} {l : List (List Int)} (h : SSpec b m cp f t H M S v er) (he : er = 0 ∨ er = 32) (hr : ruErr H M S = 0) (hc : chkW b m cp = 0) (hp : PSpec b m cp f t M pe l) : pe = 0 ∧ l.length = M.toNat ∧ v = scan t H 0 0 l ∧ (er = 0 ↔ scan t H 0 0 l ≠ 0) ∧ 0 ≤ v ∧ v ≤ M := by
  obtain ⟨r1, r2, r3, r4, r5, r6⟩ := ru_ok hr
  obtain ⟨pe', l', hp', h3, h4⟩ := h.2 hr
  obtain ⟨rfl, rfl⟩ := path_same hp hp'
  have hz : pe = 0 := by
    by_cases hz : pe = 0
    · exact hz
    · have := (h3 hz).2
      have := path_32 hp hc
      omega
  subst hz
  have hl := path_len hp
  obtain ⟨rfl, e2⟩ := h4 rfl
  have bd := scan_bd (g := t) r1 l 0 0 (by omega) (by omega)
  refine ⟨rfl, hl, rfl, ?_, by omega, by omega⟩
  split at e2
  · rename_i h5
    exact ⟨fun h6 => by omega, fun h6 => absurd h5 h6⟩
  · rename_i h5
    exact ⟨fun _ => h5, fun _ => e2⟩
end
end Go.Proofs.Ytddphdkhaaolmaa
