/- Chapter 38: lists of numbers and lists of such lists: copies, least and greatest, equal ones, indexes. -/
import Derived.Test.YtclmjllngcndbaaPn1
import Derived.Lib.MinMax
namespace Go.Proofs.Ytclmjllngcndbaa
open Go.RowKit

theorem info3 : (Try.prog.info? 3).map (fun i => (i.zero, i.size, i.bytes)) = some (some (.int .i64 0), 1, 8) := by kernel_rfl
theorem infoL : (Try.prog.info? 22).map (fun i => (i.zero, i.size, i.bytes)) = some (some (.slice none 0 0), 1, 24) := by kernel_rfl
/-- A row of numbers in new memory. -/
def NewInts (w w' : World) (v : Value) (l : List Int) : Prop := w'.ownsRow w.heap.size 3 1 v l.length (ints l) ∧ Below w.heap.size w w'
/-- A row of rows of numbers. -/
def PRow (S : Nat → Prop) (w : World) (vs : List Value) (L : List (List Int)) : Prop := vs.length = L.length ∧ ∀ (i : Nat) (l : List Int), L[i]? = some l → ∃ A c, vs[i]? = some (Value.slice A l.length c) ∧ Rds S w 1 A l.length (ints l)
theorem PRow.nil (S : Nat → Prop) (w : World) : PRow S w [] [] := ⟨rfl, fun i l h => by simp at h⟩
theorem PRow.below {w w' : World} {vs : List Value} {L : List (List Int)} (h : PRow Nn w vs L) (hb : Below w.heap.size w w') : PRow Nn w' vs L :=
  ⟨h.1, fun i l hl => by obtain ⟨A, c, e, r⟩ := h.2 i l hl; exact ⟨A, c, e, r.below hb⟩⟩
theorem PRow.keep {S : Nat → Prop} {w w' : World} {vs : List Value} {L : List (List Int)} (h : PRow S w vs L) (hc : Chg S w w') : PRow S w' vs L :=
  ⟨h.1, fun i l hl => by obtain ⟨A, c, e, r⟩ := h.2 i l hl; exact ⟨A, c, e, r.keep hc⟩⟩
theorem Rds.mono_set {S S' : Nat → Prop} {w : World} {sz n : Nat} {A : Option Addr} {xs : List Value} (h : Rds S w sz A n xs) (hs : ∀ b, b < w.heap.size → S' b → S b) : Rds S' w sz A n xs :=
  ⟨h.1, fun hn => by obtain ⟨ad, e, h1, h2, h3⟩ := h.2 hn; exact ⟨ad, e, h1, fun hq => h2 (hs _ h1 hq), h3⟩⟩
theorem PRow.mono {S S' : Nat → Prop} {w : World} {vs : List Value} {L : List (List Int)} (h : PRow S w vs L) (hs : ∀ b, b < w.heap.size → S' b → S b) : PRow S' w vs L :=
  ⟨h.1, fun i l hl => by obtain ⟨A, c, e, r⟩ := h.2 i l hl; exact ⟨A, c, e, r.mono_set hs⟩⟩
theorem PRow.snoc {S : Nat → Prop} {w : World} {vs : List Value} {L : List (List Int)} {A : Option Addr} {c : Nat} {l : List Int} (h : PRow S w vs L) (r : Rds S w 1 A l.length (ints l)) : PRow S w (vs ++ [Value.slice A l.length c]) (L ++ [l]) := by
  refine ⟨by simp [h.1], fun i l' hl => ?_⟩
  rcases Nat.lt_or_ge i L.length with hi | hi
  · rw [List.getElem?_append_left hi] at hl
    obtain ⟨A', c', e, r'⟩ := h.2 i l' hl
    exact ⟨A', c', by rw [List.getElem?_append_left (by rw [h.1]; exact hi)]; exact e, r'⟩
  · rw [List.getElem?_append_right hi] at hl
    have hz : i - L.length = 0 := by
      rcases hd : i - L.length with _ | k
      · rfl
      · rw [hd] at hl; simp at hl
    rw [hz] at hl
    simp at hl
    subst hl
    exact ⟨A, c, by rw [List.getElem?_append_right (by rw [h.1]; exact hi), h.1, hz]; rfl, r⟩
theorem PRow.at_ {S : Nat → Prop} {w : World} {vs : List Value} {L : List (List Int)} (h : PRow S w vs L) {k : Nat} (hk : k < L.length) : ∃ l A c, L[k]? = some l ∧ vs[k]? = some (Value.slice A l.length c) ∧ Rds S w 1 A l.length (ints l) := by
  have e : L[k]? = some L[k] := List.getElem?_eq_getElem hk
  obtain ⟨A, c, h1, h2⟩ := h.2 k _ e
  exact ⟨_, A, c, e, h1, h2⟩
theorem eqIn_nil {P : Program} (w : World) (d : Nat) (t e : TypeId) (a : Addr) (l c : Nat) (h : P.underlying t = some (.slice e)) : (Op.equalIn (d + 1) t (.slice (some a) l c) (.slice none 0 0)).run P w = .ok false w := by simp [Op.equalIn, run_underlying h]
theorem eql_nil {P : Program} (w : World) (t e : TypeId) (a : Addr) (l c : Nat) (h : P.underlying t = some (.slice e)) : (binOp .eql t (.slice (some a) l c) (.slice none 0 0)).run P w = .ok (.bool false) w := by
  have h2 : (Op.equal t (.slice (some a) l c) (.slice none 0 0)).run P w = .ok false w := eqIn_nil w 9999 t e a l c h
  simp [binOp, h2]
/-- A cell of a row of slices, in every later world. -/
theorem val_cell {w : World} {A : Option Addr} {n : Nat} {xs : List Value} {u : Value} (h : Rds Nn w 1 A n xs) {k : Nat} (hk : k < n) (hu : xs[k]? = some u) : ∃ p o, A = some ⟨p, o, none⟩ ∧ p < w.heap.size ∧ ∀ W, Below w.heap.size w W → W.cell? ⟨p, o + k, none⟩ = some u := by
  obtain ⟨p, o, rfl, hp, _, hr⟩ := Rds.plain h (by omega) (by decide)
  refine ⟨p, o, rfl, hp, fun W hW => ?_⟩
  rw [← hr k u hu]; exact World.cell?_of_block (hW.block _ hp)
theorem ints_one (l : List Int) : ∀ u ∈ ints l, u.oneCell' = true := by
  intro u hu
  obtain ⟨x, _, rfl⟩ := List.mem_map.1 hu
  rfl
set_option maxHeartbeats 1000000 in
theorem clone_any (ad : Addr) (c n : Nat) (l : List Int) (w : World) (r : Rds Nn w 1 (some ad) n (ints l)) (hn : n = l.length) (hl : n ≤ 1000000) : Calls Try.prog 40 #[.slice (some ad) n c] w fun e w' => ∃ u, e = .returned u ∧ NewInts w w' u l := by
  have R := hid r
  have N := hid hn
  have hq := eql_nil (P := Try.prog) w 22 3 ad n c Try.underlying22
  clear r hn
  go_enter Try.func40, Try.ntmps40
  go_wp2_with (at_builtin; refine wpList_app info3 Try.underlying22 (by kernel_rfl) (by omega) (by omega) (own_empty w 0 (Nat.zero_le _) _ _) (R.out.below ((Below.refl _ _).alloc (Nat.le_refl _) _)) (ints_one l) (by omega) rfl rfl rfl rfl ?_; intro u6 w6 hown hchg hnew; have O6 := hid hown; have B6 := hid (chg_new hchg); have G6 := hid (newer_new hnew); clear hown hchg hnew)
  go_ret
  refine ⟨_, rfl, ?_, B6.out⟩
  have := own_rebase O6.out (base' := w.heap.size) (fun g hg => G6.out g hg)
  rw [Nat.zero_add, List.nil_append, N.out] at this
  exact this
set_option maxHeartbeats 1000000 in
theorem min_any (a : Option Addr) (c n : Nat) (l : List Int) (w : World) (r : Rds Nn w 1 a n (ints l)) (hn : n = l.length) (h1 : 1 ≤ n) (hl : n ≤ 1000000) : Calls Try.prog 41 #[.slice a n c] w fun e w' => ∃ x, e = .returned (.int .i64 x) ∧ x ∈ l ∧ (∀ y ∈ l, x ≤ y) ∧ w' = w := by
  have R := hid r
  have N := hid hn
  clear r hn
  obtain ⟨p, o, s, rfl, hp, hs, hcell⟩ := num_at R.out (k := 0) (by omega)
  have e0 := hcell w (Below.refl _ _)
  rw [Nat.add_zero] at e0
  have HS := hid hs
  clear hcell hs
  go_enter Try.func41, Try.ntmps41
  go_wp2
  go_loopw [3, 4] (fun m i wr => ∃ (k : Nat) (x : Int), 1 ≤ k ∧ k ≤ n ∧ m = .int .i64 x ∧ i = .int .i64 k ∧ x ∈ l.take k ∧ (∀ y ∈ l.take k, x ≤ y) ∧ wr = w) (fun _ i _ => n - (intOf i).toNat)
  case atStart =>
    refine ⟨1, s, by omega, h1, rfl, rfl, ?_, ?_, rfl⟩
    · rw [List.mem_iff_getElem?]; exact ⟨0, by rw [List.getElem?_take]; simpa using HS.out⟩
    · intro y hy
      obtain ⟨j, hj⟩ := List.mem_iff_getElem?.1 hy
      rw [List.getElem?_take] at hj
      split at hj
      · obtain rfl : j = 0 := by omega
        rw [HS.out] at hj
        injection hj with hj
        omega
      · cases hj
  case round =>
    obtain ⟨k, x, hk1, hk, rfl, rfl, hx, hall, rfl⟩ := hrel
    have HX := hid hx
    have AL := hid hall
    clear hx hall
    by_cases hlt : k < n
    · obtain ⟨p', o', z, hA, _, hz, hcell⟩ := num_at R.out hlt
      injection hA with hA
      injection hA with hA1 hA2 _
      subst hA1 hA2
      have e1 := hcell _ (Below.refl _ _)
      have HZ := hid hz
      have TK := hid (show l.take (k + 1) = l.take k ++ [z] by rw [List.take_add_one, hz]; rfl)
      clear hcell hz
      go_wp2
      go_roundw
      case rel =>
        refine ⟨k + 1, min x z, by omega, by omega, by go_num, by go_num, ?_, ?_, by trivial⟩
        · rw [TK.out, List.mem_append]
          rcases (show min x z = x ∨ min x z = z by omega) with h | h
          · rw [h]; exact .inl HX.out
          · rw [h]; exact .inr (by simp)
        · intro y hy
          rw [TK.out, List.mem_append] at hy
          rcases hy with hy | hy
          · have := AL.out y hy
            omega
          · simp at hy
            omega
      case measure => simp [intOf]; omega
    · obtain rfl : k = n := by omega
      have TK : Hid (l.take k = l) := hid (List.take_of_length_le (by rw [← N.out]; exact Nat.le_refl _))
      go_wp2
      go_ret
      refine ⟨x, rfl, ?_, ?_, rfl⟩
      · have := HX.out; rwa [TK.out] at this
      · have := AL.out; rwa [TK.out] at this
set_option maxHeartbeats 1000000 in
theorem max_any (a : Option Addr) (c n : Nat) (l : List Int) (w : World) (r : Rds Nn w 1 a n (ints l)) (hn : n = l.length) (h1 : 1 ≤ n) (hl : n ≤ 1000000) : Calls Try.prog 42 #[.slice a n c] w fun e w' => ∃ x, e = .returned (.int .i64 x) ∧ x ∈ l ∧ (∀ y ∈ l, y ≤ x) ∧ w' = w := by
  have R := hid r
  have N := hid hn
  clear r hn
  obtain ⟨p, o, s, rfl, hp, hs, hcell⟩ := num_at R.out (k := 0) (by omega)
  have e0 := hcell w (Below.refl _ _)
  rw [Nat.add_zero] at e0
  have HS := hid hs
  clear hcell hs
  go_enter Try.func42, Try.ntmps42
  go_wp2
  go_loopw [3, 4] (fun m i wr => ∃ (k : Nat) (x : Int), 1 ≤ k ∧ k ≤ n ∧ m = .int .i64 x ∧ i = .int .i64 k ∧ x ∈ l.take k ∧ (∀ y ∈ l.take k, y ≤ x) ∧ wr = w) (fun _ i _ => n - (intOf i).toNat)
  case atStart =>
    refine ⟨1, s, by omega, h1, rfl, rfl, ?_, ?_, rfl⟩
    · rw [List.mem_iff_getElem?]; exact ⟨0, by rw [List.getElem?_take]; simpa using HS.out⟩
    · intro y hy
      obtain ⟨j, hj⟩ := List.mem_iff_getElem?.1 hy
      rw [List.getElem?_take] at hj
      split at hj
      · obtain rfl : j = 0 := by omega
        rw [HS.out] at hj
        injection hj with hj
        omega
      · cases hj
  case round =>
    obtain ⟨k, x, hk1, hk, rfl, rfl, hx, hall, rfl⟩ := hrel
    have HX := hid hx
    have AL := hid hall
    clear hx hall
    by_cases hlt : k < n
    · obtain ⟨p', o', z, hA, _, hz, hcell⟩ := num_at R.out hlt
      injection hA with hA
      injection hA with hA1 hA2 _
      subst hA1 hA2
      have e1 := hcell _ (Below.refl _ _)
      have HZ := hid hz
      have TK := hid (show l.take (k + 1) = l.take k ++ [z] by rw [List.take_add_one, hz]; rfl)
      clear hcell hz
      go_wp2
      go_roundw
      case rel =>
        refine ⟨k + 1, max x z, by omega, by omega, by go_num, by go_num, ?_, ?_, by trivial⟩
        · rw [TK.out, List.mem_append]
          rcases (show max x z = x ∨ max x z = z by omega) with h | h
          · rw [h]; exact .inl HX.out
          · rw [h]; exact .inr (by simp)
        · intro y hy
          rw [TK.out, List.mem_append] at hy
          rcases hy with hy | hy
          · have := AL.out y hy
            omega
          · simp at hy
            omega
      case measure => simp [intOf]; omega
    · obtain rfl : k = n := by omega
      have TK : Hid (l.take k = l) := hid (List.take_of_length_le (by rw [← N.out]; exact Nat.le_refl _))
      go_wp2
      go_ret
      refine ⟨x, rfl, ?_, ?_, rfl⟩
      · have := HX.out; rwa [TK.out] at this
      · have := AL.out; rwa [TK.out] at this
set_option maxRecDepth 100000 in
set_option maxHeartbeats 4000000 in
theorem equal_any (a1 a2 : Option Addr) (c1 c2 n1 n2 : Nat) (la lb : List Int) (w : World) (r1 : Rds Nn w 1 a1 n1 (ints la)) (r2 : Rds Nn w 1 a2 n2 (ints lb)) (h1 : n1 = la.length) (h2 : n2 = lb.length) (hl : n1 ≤ 1000000) : Calls Try.prog 36 #[.slice a1 n1 c1, .slice a2 n2 c2] w fun e w' => e = .returned (.bool (decide (la = lb))) ∧ Below w.heap.size w w' := by
  subst h1 h2
  have R1 := hid r1
  have R2 := hid r2
  clear r1 r2
  by_cases hlen : la.length = lb.length
  rotate_left
  · have hne : la ≠ lb := fun h => hlen (by rw [h])
    have R : Hid (false = decide (la = lb)) := hid (by simp [hne])
    clear hne
    go_enter Try.func36, Try.ntmps36
    go_wp2
    go_ret
    exact ⟨ret_b R.out, Below.refl _ _⟩
  have HL := hid hlen
  go_enter Try.func36, Try.ntmps36
  go_wp2
  go_loopw [13] (fun i wr => ∃ k : Nat, k ≤ la.length ∧ i = .int .i64 k ∧ la.take k = lb.take k ∧ Below w.heap.size w wr) (fun i _ => la.length - (intOf i).toNat)
  case atStart => exact ⟨0, Nat.zero_le _, rfl, rfl, Below.refl _ _⟩
  case round =>
    obtain ⟨k, hk, rfl, heq, hbel⟩ := hrel
    have EQ := hid heq
    have BB := hid hbel
    clear heq hbel
    by_cases hlt : k < la.length
    · obtain ⟨p1, o1, x, rfl, _, hx, hc1⟩ := num_at R1.out hlt
      obtain ⟨p2, o2, y, rfl, _, hy, hc2⟩ := num_at R2.out (k := k) (by omega)
      have e1 := hc1 _ BB.out
      have e2 := hc2 _ BB.out
      have HX := hid hx
      have HY := hid hy
      clear hc1 hc2 hx hy
      by_cases hxy : x = y
      · subst hxy
        go_wp2_with fail
        go_quiet (fail)
        go_wp2
        go_roundw
        case rel => exact ⟨k + 1, by omega, by go_num, by rw [List.take_add_one, List.take_add_one, EQ.out, HX.out, HY.out], below_drewN BB.out _⟩
        case measure => simp [intOf]; omega
      · have R : Hid (false = decide (la = lb)) := hid (by
          have hne : la ≠ lb := fun h => by
            rw [h] at HX
            have := HX.out.symm.trans HY.out
            injection this with this
            exact hxy this
          simp [hne])
        go_wp2_with fail
        go_quiet (fail)
        go_wp2
        go_ret
        exact ⟨ret_b R.out, below_drewN BB.out _⟩
    · obtain rfl : k = la.length := by omega
      have R : Hid (true = decide (la = lb)) := hid (by
        have h := EQ.out
        rw [List.take_of_length_le (Nat.le_refl _), List.take_of_length_le (by rw [HL.out]; exact Nat.le_refl _)] at h
        simp [h])
      go_wp2
      go_ret
      exact ⟨ret_b R.out, BB.out⟩
set_option maxRecDepth 100000 in
set_option maxHeartbeats 4000000 in
theorem ints_any (a1 a2 : Option Addr) (c1 c2 n1 n2 : Nat) (la lb : List Int) (w : World) (r1 : Rds Nn w 1 a1 n1 (ints la)) (r2 : Rds Nn w 1 a2 n2 (ints lb)) (h1 : n1 = la.length) (h2 : n2 = lb.length) (hl : n1 ≤ 1000000) : Calls Try.prog 26 #[.slice a1 n1 c1, .slice a2 n2 c2] w fun e w' => e = .returned (.bool (decide (la = lb))) ∧ Below w.heap.size w w' := by
  subst h1 h2
  have R1 := hid r1
  have R2 := hid r2
  clear r1 r2
  by_cases hlen : la.length = lb.length
  rotate_left
  · have hne : la ≠ lb := fun h => hlen (by rw [h])
    have R : Hid (false = decide (la = lb)) := hid (by simp [hne])
    clear hne
    go_enter Try.func26, Try.ntmps26
    go_wp2
    go_ret
    exact ⟨ret_b R.out, Below.refl _ _⟩
  have HL := hid hlen
  go_enter Try.func26, Try.ntmps26
  go_wp2
  go_loopw [5] (fun i wr => ∃ k : Nat, k ≤ la.length ∧ i = .int .i64 k ∧ la.take k = lb.take k ∧ Below w.heap.size w wr) (fun i _ => la.length - (intOf i).toNat)
  case atStart => exact ⟨0, Nat.zero_le _, rfl, rfl, Below.refl _ _⟩
  case round =>
    obtain ⟨k, hk, rfl, heq, hbel⟩ := hrel
    have EQ := hid heq
    have BB := hid hbel
    clear heq hbel
    by_cases hlt : k < la.length
    · obtain ⟨p1, o1, x, rfl, _, hx, hc1⟩ := num_at R1.out hlt
      obtain ⟨p2, o2, y, rfl, _, hy, hc2⟩ := num_at R2.out (k := k) (by omega)
      have e1 := hc1 _ BB.out
      have e2 := hc2 _ BB.out
      have HX := hid hx
      have HY := hid hy
      clear hc1 hc2 hx hy
      by_cases hxy : x = y
      · subst hxy
        go_wp2_with fail
        go_quiet (fail)
        go_wp2
        go_roundw
        case rel => exact ⟨k + 1, by omega, by go_num, by rw [List.take_add_one, List.take_add_one, EQ.out, HX.out, HY.out], below_drewN BB.out _⟩
        case measure => simp [intOf]; omega
      · have R : Hid (false = decide (la = lb)) := hid (by
          have hne : la ≠ lb := fun h => by
            rw [h] at HX
            have := HX.out.symm.trans HY.out
            injection this with this
            exact hxy this
          simp [hne])
        go_wp2_with fail
        go_quiet (fail)
        go_wp2
        go_ret
        exact ⟨ret_b R.out, below_drewN BB.out _⟩
    · obtain rfl : k = la.length := by omega
      have R : Hid (true = decide (la = lb)) := hid (by
        have h := EQ.out
        rw [List.take_of_length_le (Nat.le_refl _), List.take_of_length_le (by rw [HL.out]; exact Nat.le_refl _)] at h
        simp [h])
      go_wp2
      go_ret
      exact ⟨ret_b R.out, BB.out⟩
set_option maxRecDepth 100000 in
set_option maxHeartbeats 4000000 in
theorem same38_any (a1 a2 : Option Addr) (c1 c2 n1 n2 : Nat) (va vb : List Value) (La Lb : List (List Int)) (w : World) (r1 : Rds Nn w 1 a1 n1 va) (r2 : Rds Nn w 1 a2 n2 vb) (q1 : PRow Nn w va La) (q2 : PRow Nn w vb Lb) (h1 : n1 = La.length) (h2 : n2 = Lb.length) (hl : n1 ≤ 1000000) (hm : ∀ l ∈ La, l.length ≤ 1000000) : Calls Try.prog 20 #[.slice a1 n1 c1, .slice a2 n2 c2] w fun e w' => e = .returned (.bool (decide (La = Lb))) ∧ Below w.heap.size w w' := by
  subst h1 h2
  have R1 := hid r1
  have R2 := hid r2
  have P1 := hid q1
  have P2 := hid q2
  have HM := hid hm
  clear r1 r2 q1 q2 hm
  by_cases hlen : La.length = Lb.length
  rotate_left
  · have hne : La ≠ Lb := fun h => hlen (by rw [h])
    have R : Hid (false = decide (La = Lb)) := hid (by simp [hne])
    clear hne
    go_enter Try.func20, Try.ntmps20
    go_wp2
    go_ret
    exact ⟨ret_b R.out, Below.refl _ _⟩
  have HL := hid hlen
  have hzf : ((La.length : Int) != Lb.length) = false := by simp; omega
  clear hlen
  go_enter Try.func20, Try.ntmps20
  go_wp2
  go_loopw [5] (fun i wr => ∃ k : Nat, k ≤ La.length ∧ i = .int .i64 k ∧ La.take k = Lb.take k ∧ Below w.heap.size w wr) (fun i _ => La.length - (intOf i).toNat)
  case atStart => exact ⟨0, Nat.zero_le _, rfl, rfl, Below.refl _ _⟩
  case round =>
    obtain ⟨k, hk, rfl, heq, hbel⟩ := hrel
    have EQ := hid heq
    have BB := hid hbel
    clear heq hbel
    by_cases hlt : k < La.length
    · have hltb : k < Lb.length := by rw [← HL.out]; exact hlt
      obtain ⟨l1, A1, k1, hx, hv1, hq1⟩ := P1.out.at_ hlt
      obtain ⟨l2, A2, k2, hy, hv2, hq2⟩ := P2.out.at_ (k := k) (by rw [← HL.out]; exact hlt)
      obtain ⟨p1, o1, rfl, _, hc1⟩ := val_cell R1.out hlt hv1
      obtain ⟨p2, o2, rfl, _, hc2⟩ := val_cell R2.out (k := k) (by rw [← HL.out]; exact hlt) hv2
      have e1 := hc1 _ BB.out
      have e2 := hc2 _ BB.out
      have E1 := hid hc1
      have E2 := hid hc2
      have Q1 := hid hq1
      have Q2 := hid hq2
      have HX := hid hx
      have HY := hid hy
      have LB1 := hid (HM.out l1 (List.mem_of_getElem? hx))
      clear hc1 hc2 hx hy hq1 hq2 hv1 hv2
      go_upto_region 6 with fail
      refine wp_region_hand (fun w' => w'.cell? ⟨p1, o1 + k, none⟩ = some (.slice A1 l1.length k1) ∧ w'.cell? ⟨p2, o2 + k, none⟩ = some (.slice A2 l2.length k2)) (by kernel_rfl) ?_
      simp only [List.length_cons, List.length_nil, Nat.zero_add, Nat.reduceAdd]
      have hS : wr.drew.cell? ⟨p1, o1 + k, none⟩ = some (.slice A1 l1.length k1) ∧ wr.drew.cell? ⟨p2, o2 + k, none⟩ = some (.slice A2 l2.length k2) := ⟨e1, e2⟩
      refine take_at (i := 0) (v := ?_) rfl rfl (by kernel_rfl) (by kernel_rfl) (by kernel_rfl) (fun _ _ _ h => h) (Or.inl ⟨by rfl, ?_⟩) hS ?_
      rotate_left
      · intro w hSw; (try dsimp only at hSw); go_simp; try with_reducible rfl
      try simp only [List.setIfInBounds_toArray, List.set_cons_zero, List.set_cons_succ]
      refine take_at (i := 1) (v := ?_) rfl rfl (by kernel_rfl) (by kernel_rfl) (by kernel_rfl) (fun _ _ _ h => h) (Or.inl ⟨by rfl, ?_⟩) hS ?_
      rotate_left
      · intro w hSw; (try dsimp only at hSw); go_simp; try with_reducible rfl
      try simp only [List.setIfInBounds_toArray, List.set_cons_zero, List.set_cons_succ]
      refine take_at (i := 2) (v := ?_) rfl rfl (by kernel_rfl) (by kernel_rfl) (by kernel_rfl) (fun _ _ _ h => h) (Or.inl ⟨by rfl, ?_⟩) hS ?_
      rotate_left
      · intro w hSw; (try dsimp only at hSw); go_simp; try with_reducible rfl
      try simp only [List.setIfInBounds_toArray, List.set_cons_zero, List.set_cons_succ]
      refine take_at (i := 3) (v := ?_) rfl rfl (by kernel_rfl) (by kernel_rfl) (by kernel_rfl) (fun _ _ _ h => h) (Or.inl ⟨by rfl, ?_⟩) hS ?_
      rotate_left
      · intro wi hSw; have ci0 := hSw.1; go_simp; try with_reducible rfl
      try simp only [List.setIfInBounds_toArray, List.set_cons_zero, List.set_cons_succ]
      refine take_at (i := 4) (v := ?_) rfl rfl (by kernel_rfl) (by kernel_rfl) (by kernel_rfl) (fun _ _ _ h => h) (Or.inl ⟨by rfl, ?_⟩) hS ?_
      rotate_left
      · intro w hSw; (try dsimp only at hSw); go_simp; try with_reducible rfl
      try simp only [List.setIfInBounds_toArray, List.set_cons_zero, List.set_cons_succ]
      refine take_at (i := 5) (v := ?_) rfl rfl (by kernel_rfl) (by kernel_rfl) (by kernel_rfl) (fun _ _ _ h => h) (Or.inl ⟨by rfl, ?_⟩) hS ?_
      rotate_left
      · intro w hSw; (try dsimp only at hSw); go_simp; try with_reducible rfl
      try simp only [List.setIfInBounds_toArray, List.set_cons_zero, List.set_cons_succ]
      refine take_at (i := 6) (v := ?_) rfl rfl (by kernel_rfl) (by kernel_rfl) (by kernel_rfl) (fun _ _ _ h => h) (Or.inl ⟨by rfl, ?_⟩) hS ?_
      rotate_left
      · intro w hSw; (try dsimp only at hSw); go_simp; try with_reducible rfl
      try simp only [List.setIfInBounds_toArray, List.set_cons_zero, List.set_cons_succ]
      refine take_at (i := 7) (v := ?_) rfl rfl (by kernel_rfl) (by kernel_rfl) (by kernel_rfl) (fun _ _ _ h => h) (Or.inl ⟨by rfl, ?_⟩) hS ?_
      rotate_left
      · intro wi hSw; have ci0 := hSw.2; go_simp; try with_reducible rfl
      try simp only [List.setIfInBounds_toArray, List.set_cons_zero, List.set_cons_succ]
      refine wpAnyH_ready (rs := [8]) (by kernel_rfl) (by simp) ?_
      refine AllReadyH.cons rfl (fun K hK => ?_) AllReadyH.nil
      go_simp
      (go_at_call 26; refine (ints_any _ _ _ _ _ _ l1 l2 _ (Q1.out.below (Below.drew BB.out)) (Q2.out.below (Below.drew BB.out)) rfl rfl LB1.out).mono ?_; rintro e w5 ⟨rfl, hb⟩; have HB5 := hid (show Below wr.heap.size wr w5 from by first | exact hb | exact (Below.drew (Below.refl _ _)).trans hb); have B5 := hid (BB.out.trans (HB5.out.mono BB.out.size)); have g1 := E1.out _ B5.out; have g2 := E2.out _ B5.out; clear hb hS)
      refine hK.out _ _ ⟨g1, g2⟩ (fun hS => ?_)
      clear hK K
      try simp only [Act.put, List.setIfInBounds_toArray, List.set_cons_zero, List.set_cons_succ]
      refine take_at (i := 9) (v := ?_) rfl rfl (by kernel_rfl) (by kernel_rfl) (by kernel_rfl) (fun _ _ _ h => h) (Or.inl ⟨by rfl, ?_⟩) hS ?_
      rotate_left
      · intro w hSw; (try dsimp only at hSw); go_simp; try with_reducible rfl
      try simp only [List.setIfInBounds_toArray, List.set_cons_zero, List.set_cons_succ]
      refine wpAnyH_done (by kernel_rfl) ?_ _
      simp only [Sure, Exit.then]
      clear hS g1 g2
      by_cases hxy : l1 = l2
      · rw [show decide (l1 = l2) = true by simp [hxy]]
        subst hxy
        go_wp2
        go_roundw
        case rel => exact ⟨k + 1, by omega, by go_num, by rw [List.take_add_one, List.take_add_one, EQ.out, HX.out, HY.out], B5.out⟩
        case measure => simp [intOf]; omega
      · have R : Hid (false = decide (La = Lb)) := hid (by
          have hne : La ≠ Lb := fun h => by
            rw [h] at HX
            have := HX.out.symm.trans HY.out
            injection this with this
            exact hxy this
          simp [hne])
        rw [show decide (l1 = l2) = false by simp [hxy]]
        go_wp2
        go_ret
        exact ⟨ret_b R.out, B5.out⟩
    · obtain rfl : k = La.length := by omega
      have R : Hid (true = decide (La = Lb)) := hid (by
        have h := EQ.out
        rw [List.take_of_length_le (Nat.le_refl _), List.take_of_length_le (by rw [HL.out]; exact Nat.le_refl _)] at h
        simp [h])
      go_wp2
      go_ret
      exact ⟨ret_b R.out, BB.out⟩
set_option maxHeartbeats 1000000 in
theorem idx1_any (a1 a2 : Option Addr) (b c1 c2 n1 n2 : Nat) (la lb : List Int) (w : World) (r1 : Rds Nn w 1 a1 n1 (ints la)) (r2 : Rds Nn w 1 a2 n2 (ints lb)) (h1 : n1 = la.length) (h2 : n2 = lb.length) (hl : n1 ≤ 1000000) (hb : Blk w b 22 #[.slice a2 n2 c2]) : Calls Try.prog 35 #[.slice a1 n1 c1, .pointer (some ⟨b, 0, none⟩)] w fun e w' => e = .returned (.bool (decide (la = lb))) ∧ Below w.heap.size w w' := by
  subst h1 h2
  have C := hb.cell
  have R1 := hid r1
  have R2 := hid r2
  clear r1 r2 hb
  go_enter Try.func35, Try.ntmps35
  go_wp2_with fail
  refine (equal_any _ _ _ _ _ _ la lb _ R1.out R2.out rfl rfl hl).mono ?_
  rintro e w5 ⟨rfl, hb⟩
  clear C
  go_wp2
  go_ret
  exact ⟨rfl, hb⟩
def IdxPost (w : World) (L : List (List Int)) (c : List Int) : Ending → World → Prop := fun e w' => ∃ x : Int, e = .returned (.int .i64 x) ∧ ((∃ i : Nat, x = i ∧ L[i]? = some c) ∨ (x = -1 ∧ c ∉ L)) ∧ Below w.heap.size w w'
set_option maxHeartbeats 1000000 in
theorem idxf_any (a a2 : Option Addr) (b c c2 n n2 : Nat) (vs : List Value) (L : List (List Int)) (l : List Int) (w : World) (r : Rds Nn w 1 a n vs) (q : PRow Nn w vs L) (r2 : Rds Nn w 1 a2 n2 (ints l)) (hn : n = L.length) (h2 : n2 = l.length) (hl : n ≤ 1000000) (hm : ∀ l ∈ L, l.length ≤ 1000000) (hb : Blk w b 22 #[.slice a2 n2 c2]) : Calls Try.prog 37 #[.slice a n c, .func (.func 35) #[] #[.pointer (some ⟨b, 0, none⟩)]] w (IdxPost w L l) := by
  subst h2
  have R1 := hid r
  have R2 := hid r2
  have P1 := hid q
  have HB := hid hb
  have HN := hid hn
  have HM := hid hm
  clear r r2 q hb hn hm
  go_enter Try.func37, Try.ntmps37
  go_wp2
  go_loopw [8] (fun i wr => ∃ k : Nat, k ≤ n ∧ i = .int .i64 k ∧ (∀ j, j < k → L[j]? ≠ some l) ∧ Below w.heap.size w wr) (fun i _ => n - (intOf i).toNat)
  case atStart => exact ⟨0, Nat.zero_le _, rfl, fun j hj => by omega, Below.refl _ _⟩
  case round =>
    obtain ⟨k, hk, rfl, hno, hbel⟩ := hrel
    have NO := hid hno
    have BB := hid hbel
    clear hno hbel
    by_cases hlt : k < n
    · obtain ⟨l1, A1, k1, hx, hv1, hq1⟩ := P1.out.at_ (k := k) (by rw [← HN.out]; exact hlt)
      obtain ⟨p1, o1, rfl, _, hc1⟩ := val_cell R1.out hlt hv1
      have e1 := hc1 _ BB.out
      have Q1 := hid hq1
      have HX := hid hx
      have LB1 := hid (HM.out l1 (List.mem_of_getElem? hx))
      clear hc1 hx hq1 hv1
      go_wp2_with fail
      refine (idx1_any _ _ _ _ _ _ _ l1 l _ (Q1.out.below BB.out) (R2.out.below BB.out) rfl rfl LB1.out (HB.out.below BB.out HB.out.lt)).mono ?_
      rintro e w5 ⟨rfl, hb⟩
      have B5 := hid (BB.out.trans (hb.mono BB.out.size))
      clear hb e1
      by_cases hxy : l1 = l
      · rw [show decide (l1 = l) = true by simp [hxy]]
        subst hxy
        go_wp2
        go_ret
        exact ⟨_, rfl, .inl ⟨k, rfl, HX.out⟩, B5.out⟩
      · rw [show decide (l1 = l) = false by simp [hxy]]
        go_wp2
        go_roundw
        case rel =>
          refine ⟨k + 1, by omega, by go_num, fun j hj h => ?_, B5.out⟩
          by_cases hjk : j = k
          · subst hjk
            rw [HX.out] at h
            injection h with h
            exact hxy h
          · exact NO.out j (by omega) h
        case measure => simp [intOf]; omega
    · obtain rfl : k = n := by omega
      have R : Hid (l ∉ L) := hid (fun h => by
        obtain ⟨j, hj⟩ := List.mem_iff_getElem?.1 h
        exact NO.out j (by rw [HN.out]; exact (List.getElem?_eq_some_iff.1 hj).1) hj)
      go_wp2
      go_ret
      exact ⟨_, rfl, .inr ⟨rfl, R.out⟩, BB.out⟩
end Go.Proofs.Ytclmjllngcndbaa
