/- Delay lines: what each function of the layer does to memory. -/
import Derived.Test.YtddphdkhaaolmaaProg
import Derived.Test.YtddphdkhaaolmaaApp
namespace Go.Proofs.Ytddphdkhaaolmaa
open Go.RowKit
theorem info3 : (Try.prog.info? 3).map (fun i => (i.zero, i.size, i.bytes)) = some (some (.int .i64 0), 1, 8) := by kernel_rfl

theorem rep_set (n k : Nat) (x : Int) (h : k < n) : (ints (List.replicate k x ++ List.replicate (n - k) 0)).set k (.int .i64 x) = ints (List.replicate (k + 1) x ++ List.replicate (n - (k + 1)) 0) := by
  obtain ⟨m, rfl⟩ : ∃ m, n = k + 1 + m := ⟨n - (k + 1), by omega⟩
  have e1 : k + 1 + m - k = m + 1 := by omega
  have e2 : k + 1 + m - (k + 1) = m := by omega
  rw [e1, e2]
  simp only [ints, List.map_append, List.map_replicate]
  rw [List.set_append_right _ _ (by simp)]
  simp only [List.length_replicate, Nat.sub_self, List.replicate_succ, List.set_cons_zero]
  rw [List.append_cons, ← List.replicate_succ', List.replicate_succ]

set_option maxRecDepth 100000 in
set_option maxHeartbeats 400000 in
theorem filled_any (n : Nat) (x : Int) (w : World) (hn : n ≤ 1000000) :
    Calls Try.prog 105 #[.int .i64 (n : Int), .int .i64 x] w fun e w' => ∃ g : Nat, e = .returned (.slice (some ⟨g, 0, none⟩) n n) ∧
      w.heap.size ≤ g ∧ w'.ownsRow w.heap.size 3 1 (.slice (some ⟨g, 0, none⟩) n n) n (ints (List.replicate n x)) ∧ Below w.heap.size w w' := by
  have hmk := run_make_row' (P := Try.prog) 30 3 (.int .i64 0) 8 Try.underlying30 info3 rfl .i64 .i64 n (by omega) (by omega)
  go_enter Try.func105, Try.ntmps105
  go_wp2
  go_loopw [11] (fun i wr => ∃ k : Nat, k ≤ n ∧ i = .int .i64 k ∧ wr.ownsRow w.heap.size 3 1 (.slice (some ⟨w.heap.size, 0, none⟩) n n) n (ints (List.replicate k x ++ List.replicate (n - k) 0)) ∧ Below w.heap.size w wr) (fun i _ => n - (intOf i).toNat)
  case atStart =>
    refine ⟨0, Nat.zero_le _, rfl, ?_, (Below.refl _ _).alloc (Nat.le_refl _) _⟩
    have := World.ownsRow_lit (base := w.heap.size) (e := 3) (size := 1) w (madeCells #[.int .i64 0] n) n (Nat.le_refl _) (by unfold maxLen; omega) (by simp [madeCells])
    rw [toList_madeCells_one] at this
    simpa [ints] using this
  case round =>
    obtain ⟨k, hk, rfl, hown, hbel⟩ := hrel
    have hst := hown.stored k (.int .i64 x)
    have hfz := hown.frozenAt k
    have hcl : k < n → ∃ v, wr.cell? ⟨w.heap.size, k, none⟩ = some v := by
      intro h
      rw [hown.cellAt k (by omega), ints_get]
      exact ⟨_, by rw [List.getElem?_eq_getElem (by simp; omega)]; rfl⟩
    by_cases hlt : k < n
    · obtain ⟨v, hcl⟩ := hcl hlt
      rw [rep_set n k x hlt] at hst
      have HS := hid hst
      clear hst hown
      go_wp2
      go_roundw
      case rel => exact ⟨k + 1, by omega, by go_num, HS.out.1, hbel.grown HS.out.2 hbel.size (by intro g hg; injection hg with hg; omega)⟩
      case measure => simp [intOf]; omega
    · obtain rfl : k = n := by omega
      have HO := hid hown
      clear hst hown hcl
      go_wp2
      go_ret
      exact ⟨w.heap.size, rfl, Nat.le_refl _, by simpa using HO.out, hbel⟩

/-! ### The lines -/
/-- The blocks of which a line consists. -/
def Ft (b : Nat) (v : Value) : Nat → Prop := fun k => k = b ∨ v.ownBlock = some k
/-- At block b lies a line (of type T) that keeps xs; v is the slice in its field. -/
structure Ln (T : TypeId) (w : World) (b : Nat) (v : Value) (xs : List Int) : Prop where
  blk : Blk w b T #[v]
  own : w.ownsRow 0 3 1 v xs.length (ints xs)
theorem Ln.lt {T : TypeId} {w : World} {b : Nat} {v : Value} {xs : List Int} (h : Ln T w b v xs) : ∀ k, Ft b v k → k < w.heap.size := by
  intro k hk
  rcases hk with rfl | hk
  · exact h.blk.lt
  · exact (own_blk h.own k hk).2
theorem Ln.keep {T : TypeId} {w w' : World} {b : Nat} {v : Value} {xs : List Int} {S : Nat → Prop} (h : Ln T w b v xs) (hc : Chg S w w') (hn : ∀ k, Ft b v k → ¬ S k) : Ln T w' b v xs :=
  ⟨h.blk.keep hc (hn b (.inl rfl)), own_keep h.own hc (fun g hg => hn g (.inr hg))⟩
theorem Ln.below {T : TypeId} {w w' : World} {b : Nat} {v : Value} {xs : List Int} (h : Ln T w b v xs) (hc : Below w.heap.size w w') : Ln T w' b v xs :=
  h.keep (Chg.of_below (S := Nn) hc (fun k h1 h2 => by omega)) (fun _ _ => id)
/-- A new line. -/
def New (T : TypeId) (w w' : World) (b : Nat) (v : Value) (xs : List Int) : Prop := Ln T w' b v xs ∧ (∀ k, Ft b v k → w.heap.size ≤ k) ∧ Below w.heap.size w w'
/-- A line that was changed. -/
def Step (T : TypeId) (w w' : World) (b : Nat) (v v' : Value) (xs : List Int) : Prop := Ln T w' b v' xs ∧ Chg (Ft b v) w w' ∧ Newer w v v'

theorem Ln.new {T : TypeId} {w w1 : World} {v : Value} {xs : List Int} (ho : w1.ownsRow 0 3 1 v xs.length (ints xs)) (hn : ∀ g, v.ownBlock = some g → w.heap.size ≤ g) (hb : Below w.heap.size w w1) : New T w (w1.alloc (.cells #[v] T)) w1.heap.size v xs := by
  refine ⟨⟨Blk.new _ _ _, own_keep ho ((Chg.refl Nn _).alloc _) (fun _ _ => id)⟩, fun k hk => ?_, hb.alloc hb.size _⟩
  rcases hk with rfl | hk
  · exact hb.size
  · exact hn k hk
theorem new_mk {T : TypeId} {n g : Nat} {x : Int} {w w1 : World} (ho : w1.ownsRow w.heap.size 3 1 (.slice (some ⟨g, 0, none⟩) n n) n (ints (List.replicate n x))) (hb : Below w.heap.size w w1) :
    ∃ b v, Ending.returned (.tuple #[.pointer (some ⟨w1.heap.size, 0, none⟩), .int .i64 0]) = Ending.returned (.tuple #[.pointer (some ⟨b, 0, none⟩), .int .i64 0]) ∧ New T w (w1.alloc (.cells #[.slice (some ⟨g, 0, none⟩) n n] T)) b v (List.replicate (n : Int).toNat x) :=
  ⟨_, _, rfl, Ln.new (by simpa using own_base_le ho (Nat.zero_le _)) (fun k hk => (own_blk ho k hk).1) hb⟩

/-- What a push does to a list. -/
def outOf (xs : List Int) (x : Int) : Int := (xs ++ [x]).headD 0
def pushOf (xs : List Int) (x : Int) : List Int := (xs ++ [x]).tail

theorem new_any (n x : Int) (w : World) (h : 0 ≤ n ∧ n ≤ 32) :
    Calls Try.prog 102 #[.int .i64 n, .int .i64 x] w fun e w' => ∃ b v, e = .returned (.tuple #[.pointer (some ⟨b, 0, none⟩), .int .i64 0]) ∧ New 154 w w' b v (List.replicate n.toNat x) := by
  obtain ⟨n, rfl⟩ := Int.eq_ofNat_of_zero_le h.1
  obtain ⟨h0, h1⟩ := h
  go_enter Try.func102, Try.ntmps102
  go_wp2_with (go_at_call 105; refine (filled_any n x _ (by omega)).mono ?_; rintro e w1 ⟨g, rfl, hg, ho, hb⟩)
  go_ret2
  exact new_mk ho hb
theorem new_no (n x : Int) (w : World) (h : n < 0 ∨ 32 < n) :
    Calls Try.prog 102 #[.int .i64 n, .int .i64 x] w fun e w' => e = .returned (.tuple #[.pointer none, .int .i64 1]) ∧ Below w.heap.size w w' := by
  rcases h with h | h
  · go_enter Try.func102, Try.ntmps102
    go_wp2
    go_ret2
    exact ⟨rfl, Below.refl _ _⟩
  · have h0 : ¬ n < 0 := by omega
    go_enter Try.func102, Try.ntmps102
    go_wp2
    go_ret2
    exact ⟨rfl, Below.refl _ _⟩

theorem push_nil (x : Int) (w : World) : Calls Try.prog 104 #[.pointer none, .int .i64 x] w fun e w' => e = .returned (.tuple #[.int .i64 0, .int .i64 14]) ∧ w = w' := by
  go_enter Try.func104, Try.ntmps104
  go_wp2
  go_ret2
  exact ⟨rfl, rfl⟩

/-- A line that keeps something shows its row. -/
theorem Ln.form {T : TypeId} {w : World} {b : Nat} {v : Value} {xs : List Int} (h : Ln T w b v xs) (hp : 0 < xs.length) : ∃ g c cur, v = .slice (some ⟨g, 0, none⟩) xs.length c ∧ xs.length ≤ c ∧ c ≤ maxLen ∧ Blk w g 3 cur ∧ cur.size = c ∧ cur.toList.take xs.length = ints xs ∧ g ≠ b ∨ T = 3 := by
  rcases h.own.2 with ⟨_, h0⟩ | ⟨g, c, cur, hv, _, hg, hn, hc, hs, ht⟩
  · omega
  · by_cases hT : T = 3
    · exact ⟨0, 0, #[], .inr hT⟩
    · refine ⟨g, c, cur, .inl ⟨hv, hn, hc, hg, by simpa using hs, by simpa using ht, fun e => ?_⟩⟩
      subst e
      have h1 := h.blk
      unfold Blk at h1
      rw [hg] at h1
      injection h1 with h1
      injection h1 with _ h1
      exact hT h1.symm

theorem push_cell {w2 : World} {g c : Nat} {xs : List Int} {cur : Array Value} (hcur : cur.size = c) (hn : xs.length + 1 ≤ c) (hg2 : Blk w2 g 3 (ints xs ++ cur.toList.drop (ints xs).length).toArray) : ∃ o, w2.cell? ⟨g, xs.length, none⟩ = some o := by
  rw [hg2.cell]
  exact ⟨_, Array.getElem?_eq_getElem (by simp [ints]; omega)⟩
theorem push_end {T : TypeId} {w w2 : World} {b g c : Nat} {y x : Int} {xs : List Int} {cur : Array Value} (h : Ln T w b (.slice (some ⟨g, 0, none⟩) (xs.length + 1) c) (y :: xs)) (hcur : cur.size = c) (hn : xs.length + 1 ≤ c) (hne : g ≠ b)
    (hg2 : Blk w2 g 3 (ints xs ++ cur.toList.drop (ints xs).length).toArray) (hc2 : Chg (fun k => k = g) w.drew w2) :
    Step T w (w2.setCell ⟨g, xs.length, none⟩ (.int .i64 x)) b (.slice (some ⟨g, 0, none⟩) (xs.length + 1) c) (.slice (some ⟨g, 0, none⟩) (xs.length + 1) c) (pushOf (y :: xs) x) := by
  have hb2 : Blk w2 b T #[.slice (some ⟨g, 0, none⟩) (xs.length + 1) c] := Blk.keep (w := w.drew) h.blk hc2 (fun e => hne e.symm)
  have hcm : c ≤ maxLen := by
    rcases h.own.2 with ⟨_, h0⟩ | ⟨_, _, _, hv, _, _, _, hm, _⟩
    · simp at h0
    · injection hv with _ _ hv; subst hv; exact hm
  have hs := hg2.set xs.length (.int .i64 x)
  refine ⟨⟨hb2.other (fun e => hne e.symm) _, ⟨by simp [pushOf, ints], .inr ⟨g, c, _, by simp [pushOf], Nat.zero_le _, hs, by simp [pushOf]; omega, hcm, ?_, ?_⟩⟩⟩, ?_, fun k hk => .inl hk⟩
  · simp [ints]; omega
  · have e1 : (ints xs).length = xs.length := ints_length xs
    rw [Array.toList_setIfInBounds]
    simp only [pushOf, List.cons_append, List.tail_cons, List.length_append, List.length_cons, List.length_nil, Nat.mul_one, e1]
    rw [List.set_append_right _ _ (by omega), e1, Nat.sub_self]
    have hd : 0 < (cur.toList.drop xs.length).length := by simp; omega
    obtain ⟨z, zs, hz⟩ : ∃ z zs, cur.toList.drop xs.length = z :: zs := List.exists_cons_of_length_pos hd
    rw [hz, List.set_cons_zero, ints_append]
    rw [List.append_cons, List.take_append_of_le_length (by simp [ints]), List.take_of_length_le (by simp [ints])]
    rfl
  · have h1 := hc2.mono (S' := Ft b (.slice (some ⟨g, 0, none⟩) (xs.length + 1) c)) (fun k _ e => .inr (by subst e; rfl))
    have h2 : Chg (Ft b (.slice (some ⟨g, 0, none⟩) (xs.length + 1) c)) w w2 := ⟨h1.os, h1.tape, h1.output, h1.size, h1.block⟩
    exact h2.setCell (a := ⟨g, xs.length, none⟩) (.inl (.inr rfl)) _

theorem push_any (b : Nat) (v : Value) (xs : List Int) (x : Int) (w : World) (h : Ln 154 w b v xs) (hl : xs.length ≤ 1000000) :
    Calls Try.prog 104 #[.pointer (some ⟨b, 0, none⟩), .int .i64 x] w fun e w' => e = .returned (.tuple #[.int .i64 (outOf xs x), .int .i64 0]) ∧ Step 154 w w' b v v (pushOf xs x) := by
  have c0 : w.cell? ⟨b, 0, none⟩ = some v := h.blk.cell 0
  have f0 : w.frozen? ⟨b, 0, none⟩ = false := h.blk.frozen 0
  rcases xs with _ | ⟨y, xs⟩
  · obtain ⟨A, c, rfl, _, _⟩ := own_form h.own
    have HL := hid h
    clear h
    simp only [List.length_nil] at *
    go_enter Try.func104, Try.ntmps104
    go_wp2
    go_ret2
    exact ⟨rfl, HL.out, Chg.refl _ _, fun g hg => .inl hg⟩
  · obtain ⟨g, c, cur, ⟨rfl, hn, hc, hg, hs, ht, hne⟩ | hT⟩ := h.form (by simp)
    · have HL := hid h
      have HG := hid hg
      have hget := own_pos h.own (by simp)
      have c1 : w.cell? ⟨g, 0, none⟩ = some (.int .i64 y) := by
        rw [hg.cell]
        have := congrArg (fun l => l[0]?) ht
        simpa [ints, List.getElem?_take] using this
      clear h hg hget
      have HS := hid hs
      have HT := hid ht
      clear hs ht
      simp only [List.length_cons] at *
      unfold maxLen at hc
      have i1 : (1 : Int) ≤ (xs.length : Int) + 1 := by omega
      obtain ⟨A, hA⟩ : ∃ A : Option Addr, (if c = 1 then some (⟨g, 0, none⟩ : Addr) else some ⟨g, 1, none⟩) = A := ⟨_, rfl⟩
      have hR : Rds Nn w 1 A xs.length (ints xs) := by
        refine ⟨by simp [ints], fun hp => ?_⟩
        rw [if_neg (by omega)] at hA
        refine ⟨_, hA.symm, HG.out.lt, id, fun j u hu => ?_⟩
        rw [add_at, HG.out.cell]
        have := congrArg (fun l => l[1 + j]?) HT.out
        have hj := (List.getElem?_eq_some_iff.1 hu).1
        rw [ints_length] at hj
        simp only [ints, List.getElem?_take] at this
        rw [if_pos (by omega), Nat.add_comm 1 j] at this
        rw [Nat.add_comm 1 j, ← Array.getElem?_toList, this]
        simpa [ints] using hu
      have HR := hid hR
      clear hR
      go_enter Try.func104, Try.ntmps104
      go_wp2
      have k1 : (ints xs).length = Nat.min xs.length (xs.length + 1) := by simp [ints]
      have k2 : Rds Nn w.drew 1 A (ints xs).length (ints xs) := by rw [ints_length]; exact HR.out
      have k3 : (ints xs).length ≤ cur.size := by rw [ints_length, HS.out]; omega
      have K1 := hid k1
      have K2 := hid k2
      have K3 := hid k3
      clear k1 k2 k3
      go_region_law (refine step_cpy (P := Try.prog) (w := w.drew) (d := .tmp 27) (s := .tmp 32) (cs := ints xs) (S := Nn) (ad := A) (dLen := xs.length + 1) (dCap := c) (sLen := xs.length) (sCap := c - 1) Try.underlying30 (by kernel_rfl) HG.out K1.out K2.out K3.out (ints_cell _) rfl rfl (by simp [Act.eval, Act.put]) (by simp [Act.eval, Act.put]) ?_; intro w2 hg2 hc2)
      all_goals
        have c2 : w2.cell? ⟨b, 0, none⟩ = some (.slice (some ⟨g, 0, none⟩) (xs.length + 1) c) := (hc2.cell (by exact HL.out.blk.lt) (fun e => hne e.symm)).trans c0
        obtain ⟨o3, c3⟩ := push_cell HS.out hn hg2
        have f3 := hg2.frozen xs.length
        have HX := hid (push_end (x := x) HL.out HS.out hn hne hg2 hc2)
        clear hg2 hc2 c0 f0 c1
        go_wp2
        go_ret2
        exact ⟨rfl, HX.out⟩
    · cases hT
end Go.Proofs.Ytddphdkhaaolmaa
