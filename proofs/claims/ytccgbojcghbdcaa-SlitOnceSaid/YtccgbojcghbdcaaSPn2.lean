/- Chapter 38: lists of numbers and lists of such lists: copies, least and greatest, equal ones, indexes. -/
import Derived.Test.YtccgbojcghbdcaaPn1
import Derived.Lib.MinMax
namespace Go.Proofs.Ytccgbojcghbdcaa
open Go.RowKit

theorem info3 : (Try.prog.info? 3).map (fun i => (i.zero, i.size, i.bytes)) = some (some (.int .i64 0), 1, 8) := by kernel_rfl
theorem infoL : (Try.prog.info? 30).map (fun i => (i.zero, i.size, i.bytes)) = some (some (.slice none 0 0), 1, 24) := by kernel_rfl
/-- A row of numbers in new memory. -/
def NewInts (w w' : World) (v : Value) (l : List Int) : Prop := w'.ownsRow w.heap.size 3 1 v l.length (ints l) ∧ Below w.heap.size w w'
/-- A row of rows of numbers. -/
def PRow (S : Nat → Prop) (w : World) (vs : List Value) (L : List (List Int)) : Prop := vs.length = L.length ∧ ∀ (i : Nat) (l : List Int), L[i]? = some l → ∃ A c, vs[i]? = some (Value.slice A l.length c) ∧ Rds S w 1 A l.length (ints l)
theorem PRow.nil (S : Nat → Prop) (w : World) : PRow S w [] [] := ⟨rfl, fun i l h => by simp at h⟩
theorem PRow.below {w w' : World} {vs : List Value} {L : List (List Int)} (h : PRow Nn w vs L) (hb : Below w.heap.size w w') : PRow Nn w' vs L :=
  ⟨h.1, fun i l hl => by obtain ⟨A, c, e, r⟩ := h.2 i l hl; exact ⟨A, c, e, r.below hb⟩⟩
theorem PRow.keep {S : Nat → Prop} {w w' : World} {vs : List Value} {L : List (List Int)} (h : PRow S w vs L) (hc : Chg S w w') : PRow S w' vs L :=
  ⟨h.1, fun i l hl => by obtain ⟨A, c, e, r⟩ := h.2 i l hl; exact ⟨A, c, e, r.keep hc⟩⟩
theorem Rds.mono_set {S S' : Nat → Prop} {w : World} {sz n : Nat} {A : Option Addr} {xs : List Value} (h : Rds S w sz A n xs) (hs : ∀ b, b < w.heap.size → S' b → S b) : Rds S' w sz A n xs :=
  ⟨h.1, fun hn => by obtain ⟨ad, e, h1, h2, h3⟩ := h.2 hn; exact ⟨ad, e, h1, fun hq => h2 (hs _ h1 hq), h3⟩⟩
theorem PRow.mono {S S' : Nat → Prop} {w : World} {vs : List Value} {L : List (List Int)} (h : PRow S w vs L) (hs : ∀ b, b < w.heap.size → S' b → S b) : PRow S' w vs L :=
  ⟨h.1, fun i l hl => by obtain ⟨A, c, e, r⟩ := h.2 i l hl; exact ⟨A, c, e, r.mono_set hs⟩⟩
theorem PRow.snoc {S : Nat → Prop} {w : World} {vs : List Value} {L : List (List Int)} {A : Option Addr} {c : Nat} {l : List Int} (h : PRow S w vs L) (r : Rds S w 1 A l.length (ints l)) : PRow S w (vs ++ [Value.slice A l.length c]) (L ++ [l]) := by
  refine ⟨by simp [h.1], fun i l' hl => ?_⟩
  rcases Nat.lt_or_ge i L.length with hi | hi
  · rw [List.getElem?_append_left hi] at hl
    obtain ⟨A', c', e, r'⟩ := h.2 i l' hl
    exact ⟨A', c', by rw [List.getElem?_append_left (by rw [h.1]; exact hi)]; exact e, r'⟩
  · rw [List.getElem?_append_right hi] at hl
    have hz : i - L.length = 0 := by
      rcases hd : i - L.length with _ | k
      · rfl
      · rw [hd] at hl; simp at hl
    rw [hz] at hl
    simp at hl
    subst hl
    exact ⟨A, c, by rw [List.getElem?_append_right (by rw [h.1]; exact hi), h.1, hz]; rfl, r⟩
theorem PRow.at_ {S : Nat → Prop} {w : World} {vs : List Value} {L : List (List Int)} (h : PRow S w vs L) {k : Nat} (hk : k < L.length) : ∃ l A c, L[k]? = some l ∧ vs[k]? = some (Value.slice A l.length c) ∧ Rds S w 1 A l.length (ints l) := by
  have e : L[k]? = some L[k] := List.getElem?_eq_getElem hk
  obtain ⟨A, c, h1, h2⟩ := h.2 k _ e
  exact ⟨_, A, c, e, h1, h2⟩
theorem eqIn_nil {P : Program} (w : World) (d : Nat) (t e : TypeId) (a : Addr) (l c : Nat) (h : P.underlying t = some (.slice e)) : (Op.equalIn (d + 1) t (.slice (some a) l c) (.slice none 0 0)).run P w = .ok false w := by simp [Op.equalIn, run_underlying h]
theorem eql_nil {P : Program} (w : World) (t e : TypeId) (a : Addr) (l c : Nat) (h : P.underlying t = some (.slice e)) : (binOp .eql t (.slice (some a) l c) (.slice none 0 0)).run P w = .ok (.bool false) w := by
  have h2 : (Op.equal t (.slice (some a) l c) (.slice none 0 0)).run P w = .ok false w := eqIn_nil w 9999 t e a l c h
  simp [binOp, h2]
/-- A cell of a row of slices, in every later world. -/
theorem val_cell {w : World} {A : Option Addr} {n : Nat} {xs : List Value} {u : Value} (h : Rds Nn w 1 A n xs) {k : Nat} (hk : k < n) (hu : xs[k]? = some u) : ∃ p o, A = some ⟨p, o, none⟩ ∧ p < w.heap.size ∧ ∀ W, Below w.heap.size w W → W.cell? ⟨p, o + k, none⟩ = some u := by
  obtain ⟨p, o, rfl, hp, _, hr⟩ := Rds.plain h (by omega) (by decide)
  refine ⟨p, o, rfl, hp, fun W hW => ?_⟩
  rw [← hr k u hu]; exact World.cell?_of_block (hW.block _ hp)
theorem ints_one (l : List Int) : ∀ u ∈ ints l, u.oneCell' = true := by
  intro u hu
  obtain ⟨x, _, rfl⟩ := List.mem_map.1 hu
  rfl
set_option maxHeartbeats 1000000 in
theorem clone_any (ad : Addr) (c n : Nat) (l : List Int) (w : World) (r : Rds Nn w 1 (some ad) n (ints l)) (hn : n = l.length) (hl : n ≤ 1000000) : Calls Try.prog 67 #[.slice (some ad) n c] w fun e w' => ∃ u, e = .returned u ∧ NewInts w w' u l := by
  have R := hid r
  have N := hid hn
  have hq := eql_nil (P := Try.prog) w 30 3 ad n c Try.underlying30
  clear r hn
  go_enter Try.func67, Try.ntmps67
  go_wp2_with (at_builtin; refine wpList_app info3 Try.underlying30 (by kernel_rfl) (by omega) (by omega) (own_empty w 0 (Nat.zero_le _) _ _) (R.out.below ((Below.refl _ _).alloc (Nat.le_refl _) _)) (ints_one l) (by omega) rfl rfl rfl rfl ?_; intro u6 w6 hown hchg hnew; have O6 := hid hown; have B6 := hid (chg_new hchg); have G6 := hid (newer_new hnew); clear hown hchg hnew)
  go_ret
  refine ⟨_, rfl, ?_, B6.out⟩
  have := own_rebase O6.out (base' := w.heap.size) (fun g hg => G6.out g hg)
  rw [Nat.zero_add, List.nil_append, N.out] at this
  exact this
set_option maxHeartbeats 1000000 in
theorem min_any (a : Option Addr) (c n : Nat) (l : List Int) (w : World) (r : Rds Nn w 1 a n (ints l)) (hn : n = l.length) (h1 : 1 ≤ n) (hl : n ≤ 1000000) : Calls Try.prog 58 #[.slice a n c] w fun e w' => ∃ x, e = .returned (.int .i64 x) ∧ x ∈ l ∧ (∀ y ∈ l, x ≤ y) ∧ w' = w := by
  have R := hid r
  have N := hid hn
  clear r hn
  obtain ⟨p, o, s, rfl, hp, hs, hcell⟩ := num_at R.out (k := 0) (by omega)
  have e0 := hcell w (Below.refl _ _)
  rw [Nat.add_zero] at e0
  have HS := hid hs
  clear hcell hs
  go_enter Try.func58, Try.ntmps58
  go_wp2
  go_loopw [3, 4] (fun m i wr => ∃ (k : Nat) (x : Int), 1 ≤ k ∧ k ≤ n ∧ m = .int .i64 x ∧ i = .int .i64 k ∧ x ∈ l.take k ∧ (∀ y ∈ l.take k, x ≤ y) ∧ wr = w) (fun _ i _ => n - (intOf i).toNat)
  case atStart =>
    refine ⟨1, s, by omega, h1, rfl, rfl, ?_, ?_, rfl⟩
    · rw [List.mem_iff_getElem?]; exact ⟨0, by rw [List.getElem?_take]; simpa using HS.out⟩
    · intro y hy
      obtain ⟨j, hj⟩ := List.mem_iff_getElem?.1 hy
      rw [List.getElem?_take] at hj
      split at hj
      · obtain rfl : j = 0 := by omega
        rw [HS.out] at hj
        injection hj with hj
        omega
      · cases hj
  case round =>
    obtain ⟨k, x, hk1, hk, rfl, rfl, hx, hall, rfl⟩ := hrel
    have HX := hid hx
    have AL := hid hall
    clear hx hall
    by_cases hlt : k < n
    · obtain ⟨p', o', z, hA, _, hz, hcell⟩ := num_at R.out hlt
      injection hA with hA
      injection hA with hA1 hA2 _
      subst hA1 hA2
      have e1 := hcell _ (Below.refl _ _)
      have HZ := hid hz
      have TK := hid (show l.take (k + 1) = l.take k ++ [z] by rw [List.take_add_one, hz]; rfl)
      clear hcell hz
      go_wp2
      go_roundw
      case rel =>
        refine ⟨k + 1, min x z, by omega, by omega, by go_num, by go_num, ?_, ?_, by trivial⟩
        · rw [TK.out, List.mem_append]
          rcases (show min x z = x ∨ min x z = z by omega) with h | h
          · rw [h]; exact .inl HX.out
          · rw [h]; exact .inr (by simp)
        · intro y hy
          rw [TK.out, List.mem_append] at hy
          rcases hy with hy | hy
          · have := AL.out y hy
            omega
          · simp at hy
            omega
      case measure => simp [intOf]; omega
    · obtain rfl : k = n := by omega
      have TK : Hid (l.take k = l) := hid (List.take_of_length_le (by rw [← N.out]; exact Nat.le_refl _))
      go_wp2
      go_ret
      refine ⟨x, rfl, ?_, ?_, rfl⟩
      · have := HX.out; rwa [TK.out] at this
      · have := AL.out; rwa [TK.out] at this
set_option maxHeartbeats 1000000 in
theorem max_any (a : Option Addr) (c n : Nat) (l : List Int) (w : World) (r : Rds Nn w 1 a n (ints l)) (hn : n = l.length) (h1 : 1 ≤ n) (hl : n ≤ 1000000) : Calls Try.prog 59 #[.slice a n c] w fun e w' => ∃ x, e = .returned (.int .i64 x) ∧ x ∈ l ∧ (∀ y ∈ l, y ≤ x) ∧ w' = w := by
  have R := hid r
  have N := hid hn
  clear r hn
  obtain ⟨p, o, s, rfl, hp, hs, hcell⟩ := num_at R.out (k := 0) (by omega)
  have e0 := hcell w (Below.refl _ _)
  rw [Nat.add_zero] at e0
  have HS := hid hs
  clear hcell hs
  go_enter Try.func59, Try.ntmps59
  go_wp2
  go_loopw [3, 4] (fun m i wr => ∃ (k : Nat) (x : Int), 1 ≤ k ∧ k ≤ n ∧ m = .int .i64 x ∧ i = .int .i64 k ∧ x ∈ l.take k ∧ (∀ y ∈ l.take k, y ≤ x) ∧ wr = w) (fun _ i _ => n - (intOf i).toNat)
  case atStart =>
    refine ⟨1, s, by omega, h1, rfl, rfl, ?_, ?_, rfl⟩
    · rw [List.mem_iff_getElem?]; exact ⟨0, by rw [List.getElem?_take]; simpa using HS.out⟩
    · intro y hy
      obtain ⟨j, hj⟩ := List.mem_iff_getElem?.1 hy
      rw [List.getElem?_take] at hj
      split at hj
      · obtain rfl : j = 0 := by omega
        rw [HS.out] at hj
        injection hj with hj
        omega
      · cases hj
  case round =>
    obtain ⟨k, x, hk1, hk, rfl, rfl, hx, hall, rfl⟩ := hrel
    have HX := hid hx
    have AL := hid hall
    clear hx hall
    by_cases hlt : k < n
    · obtain ⟨p', o', z, hA, _, hz, hcell⟩ := num_at R.out hlt
      injection hA with hA
      injection hA with hA1 hA2 _
      subst hA1 hA2
      have e1 := hcell _ (Below.refl _ _)
      have HZ := hid hz
      have TK := hid (show l.take (k + 1) = l.take k ++ [z] by rw [List.take_add_one, hz]; rfl)
      clear hcell hz
      go_wp2
      go_roundw
      case rel =>
        refine ⟨k + 1, max x z, by omega, by omega, by go_num, by go_num, ?_, ?_, by trivial⟩
        · rw [TK.out, List.mem_append]
          rcases (show max x z = x ∨ max x z = z by omega) with h | h
          · rw [h]; exact .inl HX.out
          · rw [h]; exact .inr (by simp)
        · intro y hy
          rw [TK.out, List.mem_append] at hy
          rcases hy with hy | hy
          · have := AL.out y hy
            omega
          · simp at hy
            omega
      case measure => simp [intOf]; omega
    · obtain rfl : k = n := by omega
      have TK : Hid (l.take k = l) := hid (List.take_of_length_le (by rw [← N.out]; exact Nat.le_refl _))
      go_wp2
      go_ret
      refine ⟨x, rfl, ?_, ?_, rfl⟩
      · have := HX.out; rwa [TK.out] at this
      · have := AL.out; rwa [TK.out] at this
end Go.Proofs.Ytccgbojcghbdcaa
