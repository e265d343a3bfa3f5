/- Chapter 28: rows side by side; what Run returns. -/
import Derived.Test.YtddphdkhaaolmaaCWeb2
namespace Go.Proofs.Ytddphdkhaaolmaa
open Go.RowKit

/-- Two values own no block together. -/
def Dj (u v : Value) : Prop := ∀ g, u.ownBlock = some g → v.ownBlock = some g → False
def OwnI (w : World) (N : Nat) (p : Value × List Int) : Prop := w.ownsRow N 3 1 p.1 p.2.length (ints p.2)
/-- Rows of whole numbers, apart from one another. -/
def Rws (w : World) (N : Nat) (L : List (Value × List Int)) : Prop := (∀ p ∈ L, OwnI w N p) ∧ L.Pairwise (fun p q => Dj p.1 q.1)
theorem Dj.symm {u v : Value} (h : Dj u v) : Dj v u := fun g a b => h g b a
theorem own_other {w w1 w' : World} {N : Nat} {p : Value × List Int} {v : Value} (h : OwnI w N p) (hb : Below w.heap.size w w1) (hd : Dj v p.1) (hc : Chg (Rw v) w1 w') : OwnI w' N p :=
  own_keep (own_keep h (Chg.of_below (S := fun k => w.heap.size ≤ k) hb (fun _ _ h => h)) (fun g hg e => by have := (own_blk h g hg).2; omega)) hc (fun g hg e => hd g e hg)
theorem new_apart {w w1 : World} {N : Nat} {p : Value × List Int} {v v' : Value} (h : OwnI w N p) (hb : Below w.heap.size w w1) (hd : Dj v p.1) (hn : Newer w1 v v') : Dj v' p.1 := fun g a b => by
  rcases hn g a with e | e
  · exact hd g e b
  · have := (own_blk h g b).2
    have := hb.size
    omega
theorem Rws.get {w : World} {N : Nat} {L : List (Value × List Int)} (h : Rws w N L) {p : Value × List Int} (hp : p ∈ L) : w.ownsRow N 3 1 p.1 p.2.length (ints p.2) := h.1 p hp
theorem Rws.below {w w' : World} {N : Nat} {L : List (Value × List Int)} (h : Rws w N L) (hb : Below w.heap.size w w') : Rws w' N L :=
  ⟨fun p hp => own_keep (h.1 p hp) (Chg.of_below (S := fun k => w.heap.size ≤ k) hb (fun _ _ h => h)) (fun g hg e => by have := (own_blk (h.1 p hp) g hg).2; omega), h.2⟩
theorem Rws.mid {w w1 w' : World} {N : Nat} {X Y : List (Value × List Int)} {v v' : Value} {l l' : List Int} (h : Rws w N (X ++ (v, l) :: Y)) (hb : Below w.heap.size w w1) (hown : OwnI w' N (v', l')) (hchg : Chg (Rw v) w1 w') (hnew : Newer w1 v v') : Rws w' N (X ++ (v', l') :: Y) := by
  obtain ⟨h1, h2⟩ := h
  rw [List.pairwise_append, List.pairwise_cons] at h2
  obtain ⟨p1, ⟨p2, p3⟩, p4⟩ := h2
  have dx : ∀ p ∈ X, Dj v p.1 := fun p hp => (p4 p hp (v, l) (by simp)).symm
  have dy : ∀ p ∈ Y, Dj v p.1 := fun p hp => p2 p hp
  refine ⟨fun p hp => ?_, ?_⟩
  · rcases List.mem_append.1 hp with hp | hp
    · exact own_other (h1 p (by simp [hp])) hb (dx p hp) hchg
    · rcases List.mem_cons.1 hp with rfl | hp
      · exact hown
      · exact own_other (h1 p (by simp [hp])) hb (dy p hp) hchg
  · rw [List.pairwise_append, List.pairwise_cons]
    refine ⟨p1, ⟨fun p hp => new_apart (h1 p (by simp [hp])) hb (dy p hp) hnew, p3⟩, fun p hp q hq => ?_⟩
    rcases List.mem_cons.1 hq with rfl | hq
    · exact (new_apart (h1 p (by simp [hp])) hb (dx p hp) hnew).symm
    · exact p4 p hp q (by simp [hq])
theorem Rws.app {w w1 w' : World} {N n : Nat} {X Y : List (Value × List Int)} {v v' : Value} {l : List Int} {x : Int} (h : Rws w N (X ++ (v, l) :: Y)) (hb : Below w.heap.size w w1) (hN : N ≤ w.heap.size) (hn : n = l.length) (hown : w'.ownsRow 0 3 1 v' (n + 1) (ints l ++ [.int .i64 x])) (hchg : Chg (Rw v) w1 w') (hnew : Newer w1 v v') : Rws w' N (X ++ (v', l ++ [x]) :: Y) := by
  subst hn
  refine h.mid hb ?_ hchg hnew
  have ho := h.1 (v, l) (by simp)
  unfold OwnI
  simp only [List.length_append, List.length_singleton, ints_append]
  exact own_rebase hown (fun g hg => (hnew g hg).elim (fun e => (own_blk ho g e).1) (fun e => by have := hb.size; omega))
/-- One row changes in place. -/
theorem Rws.below_of {w w' : World} {N M : Nat} {X Y : List (Value × List Int)} {v : Value} {l : List Int} (h : Rws w N (X ++ (v, l) :: Y)) (hc : Chg (Rw v) w w') (hM : M ≤ N) (hN : M ≤ w.heap.size) : Below M w w' := by
  have ho := h.1 (v, l) (by simp)
  exact hc.below hN (fun b hb e => by have := (own_blk ho b e).1; omega)
theorem Rds.oneAt (w : World) (b : Nat) (y : Value) (t : TypeId) (hb : b = w.heap.size) : Rds Nn (w.alloc (.cells #[y] t)) 1 (some ⟨b, 0, none⟩) 1 [y] := by subst hb; exact Rds.one w y t
theorem Rds.pairAt (w : World) (b : Nat) (x y : Value) (t : TypeId) (hb : b = w.heap.size) : Rds Nn (w.alloc (.cells #[x, y] t)) 2 (some ⟨b, 0, none⟩) 1 [x, y] := by
  subst hb
  refine ⟨rfl, fun _ => ⟨_, rfl, by simp, id, fun j u hu => ?_⟩⟩
  match j, hu with
  | 0, hu => simp at hu; subst hu; rw [add_at, (Blk.new w t #[x, y]).cell]; rfl
  | 1, hu => simp at hu; subst hu; rw [add_at, (Blk.new w t #[x, y]).cell]; rfl
  | j + 2, hu => simp at hu
theorem Rws.step {w0 w w1 w' : World} {M n : Nat} {X Y : List (Value × List Int)} {v v' : Value} {l : List Int} {x : Int} (h : Rws w M (X ++ (v, l) :: Y)) (hb0 : Below M w0 w) (hM : M ≤ w.heap.size) (hb : Below w.heap.size w w1) (hn : n = l.length) (hown : w'.ownsRow 0 3 1 v' (n + 1) (ints l ++ [.int .i64 x])) (hchg : Chg (Rw v) w1 w') (hnew : Newer w1 v v') : Rws w' M (X ++ (v', l ++ [x]) :: Y) ∧ Below M w0 w' := by
  refine ⟨h.app hb hM hn hown hchg hnew, ?_⟩
  have h1 : Below M w0 w1 := hb0.trans (hb.mono hM)
  exact h1.trans ((h.below hb).below_of hchg (Nat.le_refl _) (Nat.le_trans hM hb.size))
theorem Rds.drewK {w : World} {sz n : Nat} {A : Option Addr} {xs : List Value} (h : Rds Nn w sz A n xs) : Rds Nn w.drew sz A n xs := h.keep ((Chg.refl Nn _).drew)
theorem Rds.allocK {w : World} {sz n : Nat} {A : Option Addr} {xs : List Value} {o : Obj} (h : Rds Nn w sz A n xs) : Rds Nn (w.alloc o) sz A n xs := h.keep ((Chg.refl Nn _).alloc _)
theorem Rds.past {w w' : World} {v y : Value} {b : Nat} (h : Rds Nn w 1 (some ⟨b, 0, none⟩) 1 [y]) (hc : Chg (Rw v) w w') (hv : ∀ g, v.ownBlock = some g → g ≠ b) : Rds Nn w' 1 (some ⟨b, 0, none⟩) 1 [y] := by
  refine ⟨h.1, fun hn => ?_⟩
  obtain ⟨ad, e, hlt, hs, hx⟩ := h.2 hn
  refine ⟨ad, e, Nat.lt_of_lt_of_le hlt hc.size, hs, fun j u hu => ?_⟩
  injection e with e
  subst e
  rw [← hx j u hu]
  exact hc.cell (by rw [add_at]; exact hlt) (by rw [add_at]; intro e; exact hv _ e rfl)
theorem infoR : (Try.prog.info? 60).map (fun i => (i.zero, i.size, i.bytes)) = some (some (.agg #[.int .i64 0, .int .i64 0]), 2, 16) := by kernel_rfl

/-- The disturbances of the moisture. -/
def dists (c : Int) (ds vs ss : List Int) : List Int := List.zipWith (fun d x => lim (d + coup c x)) ds (List.zipWith (fun v s => v - s) vs ss)
theorem dists_len {c : Int} {ds vs ss : List Int} (h1 : vs.length = ds.length) (h2 : ss.length = ds.length) : (dists c ds vs ss).length = ds.length := by
  unfold dists; rw [List.length_zipWith, List.length_zipWith]; omega
theorem dists_get {c : Int} {ds vs ss : List Int} {k : Nat} {d v s : Int} (h1 : ds[k]? = some d) (h2 : vs[k]? = some v) (h3 : ss[k]? = some s) : (dists c ds vs ss)[k]? = some (lim (d + coup c (v - s))) := by
  unfold dists; rw [List.getElem?_zipWith, List.getElem?_zipWith, h1, h2, h3]
theorem dists_in {c : Int} {ds vs ss : List Int} : ∀ d ∈ dists c ds vs ss, -65536 ≤ d ∧ d ≤ 65536 := by
  intro d hd
  obtain ⟨k, hk⟩ := List.mem_iff_getElem?.1 hd
  unfold dists at hk
  rw [List.getElem?_zipWith] at hk
  split at hk
  · injection hk with hk; subst hk; exact lim_in _
  · cases hk
def wErr (b m : CP) (c oB oM vB vM : Int) (S D : List (List Int)) : Int :=
  if chkW b m c ≠ 0 then chkW b m c else if 512 < S.length then 8 else if D.length ≠ S.length then 3 else if b.rErr oB vB (col 0 S) (col 0 D) ≠ 0 then b.rErr oB vB (col 0 S) (col 0 D) else m.rErr oM vM (col 1 S) (col 1 D)
/-- The basis weights. -/
def bVals (b : CP) (oB vB : Int) (S D : List (List Int)) : List Int := col 2 (b.rows oB vB (col 0 S) (col 0 D))
def mDist (b : CP) (c oB vB : Int) (S D : List (List Int)) : List Int := dists c (col 1 D) (bVals b oB vB S D) (col 0 S)
def mVals (b m : CP) (c oB oM vB vM : Int) (S D : List (List Int)) : List Int := col 2 (m.rows oM vM (col 1 S) (mDist b c oB vB S D))
def pairs (xs ys : List Int) : List (List Int) := List.zipWith (fun x y => [x, y]) xs ys
def wRows (b m : CP) (c oB oM vB vM : Int) (S D : List (List Int)) : List (List Int) := if wErr b m c oB oM vB vM S D = 0 then pairs (bVals b oB vB S D) (mVals b m c oB oM vB vM S D) else []
theorem pairs_len {xs ys : List Int} (h : ys.length = xs.length) : (pairs xs ys).length = xs.length := by unfold pairs; rw [List.length_zipWith]; omega
theorem pairs_two {xs ys : List Int} : ∀ r ∈ pairs xs ys, r.length = 2 := by
  intro r hr
  obtain ⟨k, hk⟩ := List.mem_iff_getElem?.1 hr
  unfold pairs at hk
  rw [List.getElem?_zipWith] at hk
  split at hk
  · injection hk with hk; subst hk; rfl
  · cases hk
theorem pairs_get {xs ys : List Int} {k : Nat} {x y : Int} (h1 : xs[k]? = some x) (h2 : ys[k]? = some y) : (pairs xs ys)[k]? = some [x, y] := by unfold pairs; rw [List.getElem?_zipWith, h1, h2]
theorem wErr_ok {b m : CP} {c oB oM vB vM : Int} {S D : List (List Int)} (h : wErr b m c oB oM vB vM S D = 0) : chkW b m c = 0 ∧ S.length ≤ 512 ∧ D.length = S.length ∧ b.rErr oB vB (col 0 S) (col 0 D) = 0 ∧ m.rErr oM vM (col 1 S) (col 1 D) = 0 := by
  unfold wErr at h
  split at h
  · rename_i hq; exact absurd h hq
  · rename_i hq
    split at h
    · cases h
    · rename_i hq2
      split at h
      · cases h
      · rename_i hq3
        split at h
        · rename_i hq4; exact absurd h hq4
        · rename_i hq4; exact ⟨by simpa using hq, by omega, by simpa using hq3, by simpa using hq4, h⟩
theorem CP.rows_len {b : CP} {o v : Int} {S D : List Int} (h : b.rErr o v S D = 0) : (b.rows o v S D).length = S.length := (rows_ok h).2
theorem CP.three (b : CP) (o v : Int) (S D : List Int) : ∀ r ∈ b.rows o v S D, r.length = 3 := rows_three _ _ _ _ _ _ _ _ _ _ _ _ _
/-- Other disturbances within the range are permitted as well. -/
theorem CP.other {b : CP} {o v : Int} {S D D' : List Int} (h : b.rErr o v S D = 0) (hl : D'.length = D.length) (hd : ∀ d ∈ D', -65536 ≤ d ∧ d ≤ 65536) : b.rErr o v S D' = 0 := by
  obtain ⟨h1, h2, h3, h4, h5⟩ := run_ok h
  refine run_mk h1 h2 (by omega) h4 ?_
  intro p hp
  obtain ⟨k, hk⟩ := List.mem_iff_getElem?.1 hp
  rw [List.getElem?_zip_eq_some] at hk
  have hkl : k < S.length := (List.getElem?_eq_some_iff.1 hk.1).1
  have hq := h5 (p.1, D[k]'(by omega)) (List.mem_iff_getElem?.2 ⟨k, by rw [List.getElem?_zip_eq_some]; exact ⟨hk.1, List.getElem?_eq_getElem _⟩⟩)
  have hd2 := hd p.2 (List.mem_of_getElem? hk.2)
  unfold okP at hq ⊢
  simp only [Bool.and_eq_true] at hq ⊢
  exact ⟨hq.1, absB_mk hd2.1 hd2.2⟩
section
variable {b m : CP} {c oB oM vB vM : Int} {S D : List (List Int)}
theorem bVals_len (h : wErr b m c oB oM vB vM S D = 0) : (bVals b oB vB S D).length = S.length := by
  unfold bVals; rw [col_len, CP.rows_len (wErr_ok h).2.2.2.1, col_len]
theorem mDist_len (h : wErr b m c oB oM vB vM S D = 0) : (mDist b c oB vB S D).length = S.length := by
  unfold mDist; rw [dists_len, col_len, (wErr_ok h).2.2.1]
  · rw [bVals_len h, col_len, (wErr_ok h).2.2.1]
  · rw [col_len, col_len, (wErr_ok h).2.2.1]
theorem mErr (h : wErr b m c oB oM vB vM S D = 0) : m.rErr oM vM (col 1 S) (mDist b c oB vB S D) = 0 :=
  CP.other (wErr_ok h).2.2.2.2 (by rw [mDist_len h, col_len, (wErr_ok h).2.2.1]) (by unfold mDist; exact dists_in)
theorem mVals_len (h : wErr b m c oB oM vB vM S D = 0) : (mVals b m c oB oM vB vM S D).length = S.length := by
  unfold mVals; rw [col_len, CP.rows_len (mErr h), col_len]
theorem wRows_ok (h : wErr b m c oB oM vB vM S D = 0) : wRows b m c oB oM vB vM S D = pairs (bVals b oB vB S D) (mVals b m c oB oM vB vM S D) ∧ (wRows b m c oB oM vB vM S D).length = S.length := by
  unfold wRows
  rw [if_pos h]
  exact ⟨rfl, by rw [pairs_len (by rw [mVals_len h, bVals_len h]), bVals_len h]⟩
theorem wRows_two : ∀ r ∈ wRows b m c oB oM vB vM S D, r.length = 2 := by
  intro r hr
  unfold wRows at hr
  split at hr
  · exact pairs_two r hr
  · cases hr
theorem wRows_len (h : S.length ≤ 520) : (wRows b m c oB oM vB vM S D).length ≤ 1000000 := by
  by_cases he : wErr b m c oB oM vB vM S D = 0
  · rw [(wRows_ok he).2]; omega
  · unfold wRows; rw [if_neg he]; simp
end
/-- A value of a loop is small. -/
theorem sims_vb {kp ki sh lo hi rate ga la : Int} {D : Nat} (hc : chkC kp ki sh lo hi rate ga la (D : Int) = 0) : ∀ (l : List (Int × Int)) (s : SS), Inv lo hi la D s → (∀ p ∈ l, okP p = true) → ∀ r ∈ sims kp ki sh lo hi rate ga la s l, -33554432 ≤ r.getD 2 0 ∧ r.getD 2 0 ≤ 33554432
  | [], _, _, _ => by simp [sims]
  | p :: l, s, h, hl => by
    have hp := hl p (by simp)
    obtain ⟨h1, h2⟩ := Bool.and_eq_true_iff.1 hp
    have h2 := absB_true h2
    have hn := h.next hc h1 h2
    intro r hr
    rcases List.mem_cons.1 hr with rfl | hr
    · exact hn.vb (chkC_ok hc).2.1
    · exact sims_vb hc l _ hn (fun q hq => hl q (by simp [hq])) r hr
theorem CP.vb {b : CP} {o v : Int} {S D : List Int} (h : b.rErr o v S D = 0) : ∀ x ∈ col 2 (b.rows o v S D), -33554432 ≤ x ∧ x ≤ 33554432 := by
  intro x hx
  obtain ⟨r, hr, rfl⟩ := List.mem_map.1 hx
  obtain ⟨h1, h2, h3, h4, h5⟩ := run_ok h
  obtain ⟨D0, hD⟩ := Int.eq_ofNat_of_zero_le (chkP_ok (chkC_ok h1).2.1).2.2.2.2.1
  have hr2 : r ∈ sims b.kp b.ki b.sh b.lo b.hi b.rate b.ga b.la (s0 o v b.de.toNat) (S.zip D) := by
    have := (rows_ok h).1
    unfold CP.rows at hr
    rw [this] at hr
    exact hr
  rw [hD] at h1
  rw [hD, Int.toNat_natCast] at hr2
  exact sims_vb h1 _ _ (inv0 h4 (by have := chkP_ok (chkC_ok h1).2.1; omega)) h5 r hr2
theorem CP.set_bd {b : CP} {o v : Int} {S D : List Int} (h : b.rErr o v S D = 0) : ∀ x ∈ S, -16777216 ≤ x ∧ x ≤ 16777216 := by
  intro x hx
  obtain ⟨h1, h2, h3, h4, h5⟩ := run_ok h
  obtain ⟨k, hk⟩ := List.mem_iff_getElem?.1 hx
  have hkl : k < S.length := (List.getElem?_eq_some_iff.1 hk).1
  have hq := h5 (x, D[k]'(by omega)) (List.mem_iff_getElem?.2 ⟨k, by rw [List.getElem?_zip_eq_some]; exact ⟨hk, List.getElem?_eq_getElem _⟩⟩)
  have := absB_true (Bool.and_eq_true_iff.1 hq).1
  omega
theorem CP.dist_bd {b : CP} {o v : Int} {S D : List Int} (h : b.rErr o v S D = 0) : ∀ x ∈ D, -65536 ≤ x ∧ x ≤ 65536 := by
  intro x hx
  obtain ⟨h1, h2, h3, h4, h5⟩ := run_ok h
  obtain ⟨k, hk⟩ := List.mem_iff_getElem?.1 hx
  have hkl : k < D.length := (List.getElem?_eq_some_iff.1 hk).1
  have hq := h5 (S[k]'(by omega), x) (List.mem_iff_getElem?.2 ⟨k, by rw [List.getElem?_zip_eq_some]; exact ⟨List.getElem?_eq_getElem _, hk⟩⟩)
  exact absB_true (Bool.and_eq_true_iff.1 hq).2
/-- A row of readings in new memory. -/
def NewReads (w w' : World) (v : Value) (rows : List (List Int)) : Prop := w'.ownsRow w.heap.size 60 2 v rows.length (ints rows.flatten) ∧ Below w.heap.size w w'
def WPost (b m : CP) (c oB oM vB vM : Int) (S D : List (List Int)) (w : World) : Ending → World → Prop := fun e w' => ∃ u, e = .returned (.tuple #[u, .int .i64 (wErr b m c oB oM vB vM S D)]) ∧ NewReads w w' u (wRows b m c oB oM vB vM S D)
theorem wr_bad {b m : CP} {c oB oM vB vM x : Int} {S D : List (List Int)} {w w' : World} (h : x = wErr b m c oB oM vB vM S D) (hx : x ≠ 0) (hb : Below w.heap.size w w') : WPost b m c oB oM vB vM S D w (.returned (.tuple #[.slice none 0 0, .int .i64 x])) w' := by
  subst h
  refine ⟨_, rfl, ?_, hb⟩
  unfold wRows
  rw [if_neg hx]
  exact own_nil _ _ _ _
theorem wr_good {b m : CP} {c oB oM vB vM : Int} {S D : List (List Int)} {w w' : World} {u : Value} {n : Nat} (h : wErr b m c oB oM vB vM S D = 0) (hn : n = S.length) (ho : w'.ownsRow w.heap.size 60 2 u n (ints (pairs (bVals b oB vB S D) (mVals b m c oB oM vB vM S D)).flatten)) (hb : Below w.heap.size w w') : WPost b m c oB oM vB vM S D w (.returned (.tuple #[u, .int .i64 0])) w' := by
  subst hn
  refine ⟨u, by rw [h], ?_, hb⟩
  rw [(wRows_ok h).2, (wRows_ok h).1]
  exact ho
end Go.Proofs.Ytddphdkhaaolmaa
