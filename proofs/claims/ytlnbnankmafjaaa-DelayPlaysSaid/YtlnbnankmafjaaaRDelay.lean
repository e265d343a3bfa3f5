/- The reference's delay lines, and the comparison of two lists. -/
import Derived.Test.YtlnbnankmafjaaaDelay
namespace Go.Proofs.Ytlnbnankmafjaaa
open Go.RowKit

theorem Ln.apart {T : TypeId} {w : World} {b : Nat} {v : Value} {xs : List Int} (hT : T ≠ 3) (h : Ln T w b v xs) : ∀ g, v.ownBlock = some g → g ≠ b := by
  intro g hg e
  subst e
  rcases h.own.2 with ⟨rfl, _⟩ | ⟨g', c, cur, rfl, _, hb, _⟩
  · cases hg
  · have : g' = g := by simpa [Value.ownBlock] using hg
    subst this
    have h1 := h.blk
    unfold Blk at h1
    rw [hb] at h1
    injection h1 with h1
    injection h1 with _ h1
    exact hT h1.symm

/-- Behind 'l.L = append(l.L, y)'. -/
theorem app_end {T : TypeId} {w w1 : World} {b : Nat} {v v1 : Value} {xs : List Int} {y : Int} {o : Obj} (hT : T ≠ 3) (h : Ln T w b v xs) (hown : w1.ownsRow 0 3 1 v1 (xs.length + 1) (ints xs ++ [.int .i64 y])) (hc : Chg (Rw v) (w.alloc o) w1) (hn : Newer (w.alloc o) v v1) :
    Step T w (w1.setCell ⟨b, 0, none⟩ v1) b v v1 (xs ++ [y]) := by
  have hlt := h.lt
  have hne : ∀ g, v1.ownBlock = some g → g ≠ b := by
    intro g hg e
    rcases hn g hg with h1 | h1
    · exact h.apart hT g h1 e
    · have := hlt b (.inl rfl); simp at h1; omega
  have c1 : Chg (Rw v) w w1 := ((Chg.refl (Rw v) w).alloc o).trans hc (fun _ _ => id)
  have c2 : Chg (Ft b v) w w1 := c1.mono (fun k _ e => .inr e)
  refine ⟨⟨(h.blk.keep c1 (fun e => h.apart hT b e rfl)).set 0 _, ?_⟩, c2.setCell (a := ⟨b, 0, none⟩) (.inl (.inl rfl)) _, fun g hg => ?_⟩
  · have := own_keep hown (S := fun k => k = b) ((Chg.refl (fun k => k = b) w1).setCell (a := ⟨b, 0, none⟩) (.inl rfl) v1) (fun k hk e => hne k hk e)
    simpa [ints] using this
  · rcases hn g hg with h1 | h1
    · exact .inl h1
    · simp at h1; exact .inr (by omega)
theorem app_cell {T : TypeId} {w w1 : World} {b : Nat} {v : Value} {xs : List Int} {o : Obj} (hT : T ≠ 3) (h : Ln T w b v xs) (hc : Chg (Rw v) (w.alloc o) w1) : w1.cell? ⟨b, 0, none⟩ = some v ∧ w1.frozen? ⟨b, 0, none⟩ = false :=
  have hb := (h.blk.alloc o).keep hc (fun e => h.apart hT b e rfl)
  ⟨hb.cell 0, hb.frozen 0⟩

theorem rep_app (k : Nat) (x : Int) : List.replicate k x ++ [x] = List.replicate (k + 1) x := by rw [List.replicate_succ']

set_option maxHeartbeats 400000 in
theorem rnew_any (n x : Int) (w : World) (h : 0 ≤ n ∧ n ≤ 32) :
    Calls Try.prog 17 #[.int .i64 n, .int .i64 x] w fun e w' => ∃ b v, e = .returned (.tuple #[.pointer (some ⟨b, 0, none⟩), .int .i64 0]) ∧ New 52 w w' b v (List.replicate n.toNat x) := by
  obtain ⟨n, rfl⟩ := Int.eq_ofNat_of_zero_le h.1
  obtain ⟨h0, h1⟩ := h
  go_enter Try.func17, Try.ntmps17
  go_wp2
  go_loopw [7] (fun i wr => ∃ (k : Nat) (v : Value), k ≤ n ∧ i = .int .i64 k ∧ Ln 52 wr w.heap.size v (List.replicate k x) ∧ (∀ g, v.ownBlock = some g → w.heap.size ≤ g) ∧ Below w.heap.size w wr) (fun i _ => n - (intOf i).toNat)
  case atStart =>
    exact ⟨0, .slice none 0 0, Nat.zero_le _, rfl, ⟨Blk.new _ _ _, own_nil _ _ _ _⟩, (fun g hg => by cases hg), (Below.refl _ _).alloc (Nat.le_refl _) _⟩
  case round =>
    obtain ⟨k, v, hk, rfl, hL, hge, hbel⟩ := hrel
    by_cases hlt : k < n
    · obtain ⟨A, c, rfl, _, _⟩ := own_form hL.own
      simp only [List.length_replicate] at *
      have c0 : wr.cell? ⟨w.heap.size, 0, none⟩ = some (.slice A k c) := hL.blk.cell 0
      have f0 : wr.frozen? ⟨w.heap.size, 0, none⟩ = false := hL.blk.frozen 0
      have hlw := hL.blk.lt
      have HL := hid hL
      have HO := hid hL.own
      have HG := hid hge
      have HB := hid hbel
      clear hL hge hbel
      go_wp2_with (at_builtin; refine wpList_app info3 Try.underlying22 rfl (by omega) (by omega) (own_keep HO.out ((Chg.refl Nn _).alloc _) (fun _ _ => id)) (Rds.one _ _ _) (by intro u hu; simp at hu; subst hu; rfl) (by simp; omega) rfl rfl rfl rfl ?_; intro v1 w1 hown hchg hnew; obtain ⟨A1, c1, rfl, _, _⟩ := own_form hown; have hc1 := app_cell (by decide) HL.out hchg; obtain ⟨c2, f2⟩ := hc1; have HE := hid (app_end (by decide) HL.out hown hchg hnew); clear hown hchg hnew)
      go_roundw
      case rel =>
        have HE := HE.out
        simp only [List.length_replicate] at HE
        obtain ⟨e1, e2, e3⟩ := HE
        rw [rep_app] at e1
        refine ⟨k + 1, _, by omega, by go_num, e1, fun g hg => ?_, HB.out.trans (e2.below HB.out.size (fun b hb hf => ?_))⟩
        · rcases e3 g hg with h | h
          · exact HG.out g h
          · have := HB.out.size; omega
        · rcases hf with rfl | hf
          · omega
          · have := HG.out b hf; omega
      case measure => simp [intOf]; omega
    · obtain rfl : k = n := by omega
      have HL := hid hL
      have HG := hid hge
      have HB := hid hbel
      clear hL hge hbel
      go_wp2
      go_ret2
      refine ⟨_, v, rfl, by simpa using HL.out, fun k hk => ?_, HB.out⟩
      rcases hk with rfl | hk
      · exact Nat.le_refl _
      · exact HG.out k hk

theorem rnew_no (n x : Int) (w : World) (h : n < 0 ∨ 32 < n) :
    Calls Try.prog 17 #[.int .i64 n, .int .i64 x] w fun e w' => e = .returned (.tuple #[.pointer none, .int .i64 1]) ∧ Below w.heap.size w w' := by
  rcases h with h | h
  · go_enter Try.func17, Try.ntmps17
    go_wp2
    go_ret2
    exact ⟨rfl, Below.refl _ _⟩
  · have h0 : ¬ n < 0 := by omega
    go_enter Try.func17, Try.ntmps17
    go_wp2
    go_ret2
    exact ⟨rfl, Below.refl _ _⟩

theorem rvalues_any (b : Nat) (v : Value) (xs : List Int) (w : World) (h : Ln 52 w b v xs) (hl : xs.length ≤ 1000000) :
    Calls Try.prog 21 #[.pointer (some ⟨b, 0, none⟩)] w fun e w' => ∃ v', e = .returned v' ∧ NewInts w w' v' xs := by
  have c0 : w.cell? ⟨b, 0, none⟩ = some v := h.blk.cell 0
  have hb0 := h.blk.lt
  obtain ⟨A, c, rfl, _, _⟩ := own_form h.own
  have HR := hid h.reads.2
  clear h
  go_enter Try.func21, Try.ntmps21
  go_wp2_with (at_builtin; refine wpList_app info3 Try.underlying22 rfl (by omega) (by omega) (own_empty w 0 (Nat.zero_le _) 3 1) (HR.out.keep ((Chg.refl Nn _).alloc _)) (ints_cell _) (by omega) rfl rfl rfl rfl ?_; intro v' w1 hown hchg hnew)
  go_ret
  exact ⟨v', rfl, by simpa using hown, newer_new hnew, chg_new hchg⟩

theorem rcopy_any (b : Nat) (v : Value) (xs : List Int) (w : World) (h : Ln 52 w b v xs) (hl : xs.length ≤ 1000000) :
    Calls Try.prog 20 #[.pointer (some ⟨b, 0, none⟩)] w fun e w' => ∃ b' v', e = .returned (.pointer (some ⟨b', 0, none⟩)) ∧ New 52 w w' b' v' xs := by
  have c0 : w.cell? ⟨b, 0, none⟩ = some v := h.blk.cell 0
  have hb0 := h.blk.lt
  obtain ⟨A, c, rfl, _, _⟩ := own_form h.own
  have HR := hid h.reads.2
  clear h
  go_enter Try.func20, Try.ntmps20
  go_wp2_with (at_builtin; refine wpList_app info3 Try.underlying22 rfl (by omega) (by omega) (own_empty w 0 (Nat.zero_le _) 3 1) (HR.out.keep ((Chg.refl Nn _).alloc _)) (ints_cell _) (by omega) rfl rfl rfl rfl ?_; intro v' w1 hown hchg hnew; simp only [Nat.zero_add] at hown; obtain ⟨A1, c1, rfl, _, _⟩ := own_form hown)
  go_ret
  exact ⟨_, _, rfl, Ln.new (by simpa using hown) (newer_new hnew) (chg_new hchg)⟩

theorem set_end {T : TypeId} {w w2 : World} {b : Nat} {v v2 : Value} {xs ys : List Int} (h : Ln T w b v xs) (ho : w2.ownsRow 0 3 1 v2 ys.length (ints ys)) (hn : ∀ g, v2.ownBlock = some g → w.heap.size ≤ g) (hb : Below w.heap.size w w2) :
    Step T w (w2.setCell ⟨b, 0, none⟩ v2) b v v2 ys := by
  have hlt := h.blk.lt
  have c1 : Chg (Ft b v) w w2 := Chg.of_below hb (fun k h1 h2 => by omega)
  refine ⟨⟨(h.blk.keep (S := Nn) (Chg.of_below hb (fun k h1 h2 => by omega)) id).set 0 _, ?_⟩, c1.setCell (a := ⟨b, 0, none⟩) (.inl (.inl rfl)) _, fun k hk => .inr (hn k hk)⟩
  exact own_keep ho (S := fun k => k = b) ((Chg.refl (fun k => k = b) w2).setCell (a := ⟨b, 0, none⟩) (.inl rfl) v2) (fun k hk e => by have := hn k hk; omega)
/-- An append behind new memory. -/
theorem app_new {w w1 w2 : World} {v1 v2 : Value} {o : Obj} (hb : Below w.heap.size w w1) (hn1 : ∀ g, v1.ownBlock = some g → w.heap.size ≤ g) (hc : Chg (Rw v1) (w1.alloc o) w2) (hn2 : Newer (w1.alloc o) v1 v2) : Below w.heap.size w w2 ∧ ∀ g, v2.ownBlock = some g → w.heap.size ≤ g := by
  have hs := hb.size
  refine ⟨(hb.alloc hs o).trans (hc.below (by simp; omega) (fun b hb e => by have := hn1 b e; omega)), fun g hg => ?_⟩
  rcases hn2 g hg with h | h
  · exact hn1 g h
  · simp at h; omega

theorem rpush_any (b : Nat) (v : Value) (xs : List Int) (x : Int) (w : World) (h : Ln 52 w b v xs) (hl : xs.length ≤ 1000000) :
    Calls Try.prog 18 #[.pointer (some ⟨b, 0, none⟩), .int .i64 x] w fun e w' => ∃ v', e = .returned (.tuple #[.int .i64 (outOf xs x), .int .i64 0]) ∧ Step 52 w w' b v v' (pushOf xs x) := by
  have c0 : w.cell? ⟨b, 0, none⟩ = some v := h.blk.cell 0
  have f0 : w.frozen? ⟨b, 0, none⟩ = false := h.blk.frozen 0
  rcases xs with _ | ⟨y, xs⟩
  · obtain ⟨A, c, rfl, _, _⟩ := own_form h.own
    have HL := hid h
    clear h
    simp only [List.length_nil] at *
    go_enter Try.func18, Try.ntmps18
    go_wp2
    go_ret2
    exact ⟨_, rfl, HL.out, Chg.refl _ _, fun g hg => .inl hg⟩
  · obtain ⟨g, c, cur, ⟨rfl, hn, hc, hg, hs, ht, hne⟩ | hT⟩ := h.form (by simp)
    · have HL := hid h
      have c1 : w.cell? ⟨g, 0, none⟩ = some (.int .i64 y) := by
        rw [hg.cell]
        have := congrArg (fun l => l[0]?) ht
        simpa [ints, List.getElem?_take] using this
      have hR := (h.reads.2.cut (k := 1) (cap := c) (by simp) hn)
      simp only [List.length_cons, Nat.mul_one, Option.map_some, add_at, Nat.zero_add, Nat.add_sub_cancel] at hR
      have e1 : (ints (y :: xs)).drop 1 = ints xs := rfl
      rw [e1] at hR
      have hbl := h.blk.lt
      clear h hg
      have HS := hid hs
      have HT := hid ht
      clear hs ht
      simp only [List.length_cons] at *
      unfold maxLen at hc
      have i1 : (1 : Int) ≤ (xs.length : Int) + 1 := by omega
      obtain ⟨A, hA⟩ : ∃ A : Option Addr, (if c = 1 then some (⟨g, 0, none⟩ : Addr) else some ⟨g, 1, none⟩) = A := ⟨_, rfl⟩
      rw [hA] at hR
      have HR := hid hR
      clear hR
      go_enter Try.func18, Try.ntmps18
      go_wp2_with (first
        | (at_builtin; refine wpList_app (s := .tmp 23) (x := .tmp 28) info3 Try.underlying22 rfl (by omega) (by omega) (own_empty w 0 (Nat.zero_le _) 3 1) (HR.out.keep ((Chg.refl Nn _).alloc _)) (ints_cell _) (by omega) rfl rfl rfl rfl ?_; intro v1 w1 hown hchg hnew; simp only [Nat.zero_add, List.nil_append] at hown; obtain ⟨A1, c1, rfl, _, _⟩ := own_form hown; have HO := hid hown; have HB := hid (chg_new hchg); have HN := hid (newer_new hnew); have f1 := (HB.out.frozen (p := ⟨b, 0, none⟩) hbl).trans f0; have c3 := (HB.out.cell (p := ⟨b, 0, none⟩) hbl).trans c0; clear hown hchg hnew)
        | (at_builtin; refine wpList_app (s := .tmp 29) (x := .tmp 31) info3 Try.underlying22 rfl (by omega) (by omega) (own_keep HO.out ((Chg.refl Nn _).alloc _) (fun _ _ => id)) (Rds.one _ _ _) (by intro u hu; simp at hu; subst hu; rfl) (by omega) rfl rfl rfl rfl ?_; intro v2 w2 hown2 hchg2 hnew2; obtain ⟨A2, c2, rfl, _, _⟩ := own_form hown2; have hz := app_new HB.out HN.out hchg2 hnew2; have f2 := (hz.1.frozen (p := ⟨b, 0, none⟩) hbl).trans f0; have c4 := (hz.1.cell (p := ⟨b, 0, none⟩) hbl).trans c0; have HE := hid (set_end (ys := pushOf (y :: xs) x) HL.out (by simpa [pushOf, ints] using hown2) hz.2 hz.1); clear hown2 hchg2 hnew2 hz))
      go_ret2
      exact ⟨_, rfl, HE.out⟩
    · cases hT

set_option maxHeartbeats 400000 in
theorem rreset_any (b : Nat) (v : Value) (xs : List Int) (x : Int) (w : World) (h : Ln 52 w b v xs) (hl : xs.length ≤ 1000000) :
    Calls Try.prog 19 #[.pointer (some ⟨b, 0, none⟩), .int .i64 x] w fun e w' => ∃ v', e = .returned (.int .i64 0) ∧ Step 52 w w' b v v' (List.replicate xs.length x) := by
  have c0 : w.cell? ⟨b, 0, none⟩ = some v := h.blk.cell 0
  have f0 : w.frozen? ⟨b, 0, none⟩ = false := h.blk.frozen 0
  have HS := hid (set_end (v2 := .slice none 0 0) (ys := []) (w2 := w) h (own_nil _ _ _ _) (fun g hg => by cases hg) (Below.refl _ _))
  have hbl := h.blk.lt
  obtain ⟨A, c, rfl, _, _⟩ := own_form h.own
  have H := hid h
  clear h
  go_enter Try.func19, Try.ntmps19
  go_wp2
  go_loopw [6] (fun i wr => ∃ (k : Nat) (v' : Value), k ≤ xs.length ∧ i = .int .i64 k ∧ Ln 52 wr b v' (List.replicate k x) ∧ (∀ g, v'.ownBlock = some g → w.heap.size ≤ g) ∧ Chg (Ft b (.slice A xs.length c)) w wr) (fun i _ => xs.length - (intOf i).toNat)
  case atStart => exact ⟨0, .slice none 0 0, Nat.zero_le _, rfl, HS.out.1, (fun g hg => by cases hg), HS.out.2.1⟩
  case round =>
    clear HS
    obtain ⟨k, v, hk, rfl, hL, hge, hbel⟩ := hrel
    by_cases hlt : k < xs.length
    · obtain ⟨A1, c1, rfl, _, _⟩ := own_form hL.own
      simp only [List.length_replicate] at *
      have cr : wr.cell? ⟨b, 0, none⟩ = some (.slice A1 k c1) := hL.blk.cell 0
      have fr : wr.frozen? ⟨b, 0, none⟩ = false := hL.blk.frozen 0
      have hlw := hL.blk.lt
      have HL := hid hL
      have HO := hid hL.own
      have HG := hid hge
      have HB := hid hbel
      clear hL hge hbel c0 f0
      go_wp2_with (at_builtin; refine wpList_app info3 Try.underlying22 rfl (by omega) (by omega) (own_keep HO.out ((Chg.refl Nn _).alloc _) (fun _ _ => id)) (Rds.one _ _ _) (by intro u hu; simp at hu; subst hu; rfl) (by simp; omega) rfl rfl rfl rfl ?_; intro v1 w1 hown hchg hnew; obtain ⟨A1, c1, rfl, _, _⟩ := own_form hown; have hc1 := app_cell (by decide) HL.out hchg; obtain ⟨c2, f2⟩ := hc1; have HE := hid (app_end (by decide) HL.out hown hchg hnew); clear hown hchg hnew)
      go_roundw
      case rel =>
        have HE := HE.out
        simp only [List.length_replicate] at HE
        obtain ⟨e1, e2, e3⟩ := HE
        rw [rep_app] at e1
        refine ⟨k + 1, _, by omega, by go_num, e1, fun g hg => ?_, HB.out.trans e2 (fun b2 hb2 hf => ?_)⟩
        · rcases e3 g hg with h | h
          · exact HG.out g h
          · have := HB.out.size; omega
        · rcases hf with rfl | hf
          · exact .inl rfl
          · have := HG.out b2 hf; omega
      case measure => simp [intOf]; omega
    · have hk2 : k = xs.length := by omega
      have HL := hid hL
      have HG := hid hge
      have HB := hid hbel
      have HK := hid hk2
      clear hL hge hbel hk2
      go_wp2
      go_ret
      rw [HK.out] at HL
      exact ⟨v, rfl, HL.out, HB.out, fun g hg => .inr (HG.out g hg)⟩

theorem take_eq (xs ys : List Int) (k : Nat) (hk : k < xs.length) (hk2 : k < ys.length) (h : xs.take k = ys.take k) : xs.take (k + 1) = ys.take (k + 1) ↔ xs[k] = ys[k] := by
  rw [List.take_succ_eq_append_getElem hk, List.take_succ_eq_append_getElem hk2, h]
  simp only [List.append_cancel_left_eq, List.cons.injEq, and_true]

/-- Are two lists the same? -/
def eqL (xs ys : List Int) : Bool := decide (xs = ys)
theorem eqL_eq {xs ys : List Int} (h : xs = ys) : eqL xs ys = true := decide_eq_true h
theorem eqL_ne {xs ys : List Int} (h : ¬ xs = ys) : eqL xs ys = false := decide_eq_false h

set_option maxHeartbeats 400000 in
theorem ints_any (A B : Option Addr) (ca cb : Nat) (xs ys : List Int) (w : World) (hx : Rds Nn w 1 A xs.length (ints xs)) (hy : Rds Nn w 1 B ys.length (ints ys)) (hl : xs.length ≤ 1000000) :
    Calls Try.prog 12 #[.slice A xs.length ca, .slice B ys.length cb] w fun e w' => e = .returned (.bool (eqL xs ys)) ∧ ∃ m, w' = w.drewN m := by
  by_cases hlen : xs.length = ys.length
  · obtain ⟨n, hn⟩ : ∃ n, xs.length = n := ⟨_, rfl⟩
    rw [← hlen, hn] at hy ⊢
    rw [hn] at hx hl
    have HX := hid hx
    have HY := hid hy
    have HN := hid hn
    have HM := hid hlen
    clear hx hy hn hlen
    have h0 : ((n : Int) != (n : Int)) = false := by simp
    go_enter Try.func12, Try.ntmps12
    go_wp2
    go_loopw [5] (fun i wr => ∃ k m : Nat, k ≤ n ∧ i = .int .i64 k ∧ xs.take k = ys.take k ∧ wr = w.drewN m) (fun i _ => n - (intOf i).toNat)
    case atStart => exact ⟨0, 0, Nat.zero_le _, rfl, rfl, rfl⟩
    case round =>
      obtain ⟨k, m, hk, rfl, ht, rfl⟩ := hrel
      have HT := hid ht
      clear ht
      by_cases hlt : k < n
      · obtain ⟨ad, u, rfl, hu, c1⟩ := HX.out.at_ hlt
        obtain ⟨ae, v, rfl, hv, c2⟩ := HY.out.at_ hlt
        have e1 : k < xs.length := by rw [HN.out]; exact hlt
        have e2 : k < ys.length := by rw [← HM.out, HN.out]; exact hlt
        rw [ints_get, List.getElem?_eq_getElem e1] at hu
        rw [ints_get, List.getElem?_eq_getElem e2] at hv
        simp only [Option.map_some, Option.some.injEq] at hu hv
        subst hu; subst hv
        have hiff := hid (take_eq xs ys k e1 e2 HT.out)
        obtain ⟨x, hx⟩ : ∃ x, xs[k] = x := ⟨_, rfl⟩
        obtain ⟨y, hy⟩ : ∃ y, ys[k] = y := ⟨_, rfl⟩
        rw [hx] at c1
        rw [hy] at c2
        have EX := hid hx
        have EY := hid hy
        clear hx hy
        have i1 : ((k : Nat) : Int) < (n : Int) := by omega
        by_cases hxy : x = y
        · subst hxy
          have h1 : (x != x) = false := by simp
          go_wp2
          go_quiet (fail)
          go_wp2
          go_roundw
          case rel =>
            refine ⟨k + 1, _, by omega, by go_num, hiff.out.2 (by rw [EX.out, EY.out]), rfl⟩
          case measure => simp [intOf]; omega
        · have h1 : (x != y) = true := by simpa using hxy
          have hne : eqL xs ys = false := by
            refine eqL_ne (fun e => hxy ?_)
            subst e
            exact EX.out.symm.trans EY.out
          have HE := hid hne
          clear hxy hne
          go_wp2
          go_quiet (fail)
          go_wp2
          go_ret
          exact ⟨by rw [HE.out]; rfl, _, World.drewN_drewN w m nq⟩
      · have hkn : k = n := by omega
        have heq : eqL xs ys = true := by
          refine eqL_eq ?_
          have := HT.out
          rw [List.take_of_length_le (by rw [HN.out]; omega), List.take_of_length_le (by rw [← HM.out, HN.out]; omega)] at this
          exact this
        have HE := hid heq
        clear hkn heq
        go_wp2
        go_ret
        exact ⟨by rw [HE.out]; rfl, _, rfl⟩
  · have hne : eqL xs ys = false := eqL_ne (fun e => hlen (by rw [e]))
    have HE := hid hne
    have h0 : ((xs.length : Int) != (ys.length : Int)) = true := by simp; omega
    clear hne hlen hx hy
    go_enter Try.func12, Try.ntmps12
    go_wp2
    go_ret
    exact ⟨by rw [HE.out]; rfl, 0, rfl⟩

theorem ints_n (A B : Option Addr) (ca cb n m : Nat) (xs ys : List Int) (w : World) (hx : Rds Nn w 1 A n (ints xs)) (hy : Rds Nn w 1 B m (ints ys)) (hl : n ≤ 1000000) :
    Calls Try.prog 12 #[.slice A n ca, .slice B m cb] w fun e w' => e = .returned (.bool (eqL xs ys)) ∧ ∃ m, w' = w.drewN m := by
  have h1 : n = xs.length := by have := hx.1; rw [ints_length] at this; omega
  have h2 : m = ys.length := by have := hy.1; rw [ints_length] at this; omega
  subst h1; subst h2
  exact ints_any A B ca cb xs ys w hx hy hl
theorem ints_true (A B : Option Addr) (ca cb n m : Nat) (xs : List Int) (w : World) (hx : Rds Nn w 1 A n (ints xs)) (hy : Rds Nn w 1 B m (ints xs)) (hl : n ≤ 1000000) :
    Calls Try.prog 12 #[.slice A n ca, .slice B m cb] w fun e w' => e = .returned (.bool true) ∧ ∃ m, w' = w.drewN m := by
  have := ints_n A B ca cb n m xs xs w hx hy hl
  rwa [eqL_eq rfl] at this
end Go.Proofs.Ytlnbnankmafjaaa
