/- ControlRuns. -/
import Derived.Test.YthekpbkmoejgmaaLaw25
import Derived.Test.YthekpbkmoejgmaaOpen
import Derived.Deep.DeepCutAuto
namespace Go.Proofs.Ythekpbkmoejgmaa
open Go.RowKit


theorem cell_below {w w' : World} {B : Nat} {a : Addr} (h : Below B w w') (ha : a.block < B) : w'.cell? a = w.cell? a := World.cell?_of_block (h.block _ ha)
theorem cell_alloc {w : World} {a : Addr} {u : Value} {o : Obj} (h : w.cell? a = some u) (ha : a.block < w.heap.size) : (w.alloc o).cell? a = some u := (cell_below ((Below.refl _ w).alloc (Nat.le_refl _) o) ha).trans h
theorem cell_two {w : World} {a p q : Addr} {u x y : Value} (h : w.cell? a = some u) (hp : a.block < p.block ∧ a.block < q.block) : ((w.setCell p x).setCell q y).cell? a = some u := (cell_below (((Below.refl (a.block + 1) w).setCell hp.1 x).setCell hp.2 y) (Nat.lt_succ_self _)).trans h
theorem pair_at {rows : List (List Int)} (h : ∀ r ∈ rows, r.length = 2 ∧ ∀ n ∈ r, (Lit.int .i64 n).wf = true) {k : Nat} (hk : k < rows.length) : ∃ s v : Int, (ints rows.flatten)[2 * k]? = some (.int .i64 s) ∧ (ints rows.flatten)[2 * k + 1]? = some (.int .i64 v) := by
  have hg := flatten_get 2 (by decide) rows (fun r hr => (h r hr).1)
  have hr : rows[k]? = some rows[k] := List.getElem?_eq_getElem hk
  have hm := h rows[k] (List.getElem_mem hk)
  obtain ⟨s, v, e⟩ : ∃ s v, rows[k] = [s, v] := by
    match hrk : rows[k], hm.1 with
    | [s, v], _ => exact ⟨s, v, rfl⟩
  refine ⟨s, v, ?_, ?_⟩
  · rw [ints_get, hg, show 2 * k / 2 = k by omega, hr, e, show 2 * k % 2 = 0 by omega]; rfl
  · rw [ints_get, hg, show (2 * k + 1) / 2 = k by omega, hr, e, show (2 * k + 1) % 2 = 1 by omega]; rfl

set_option maxHeartbeats 1000000 in
theorem controlRuns_walk (x0 : Int) (x1 : Int) (x2 : Int) (x3 : Int) (x4 : Int) (x5 : Int) (x6 : Int) (a7 : Option Addr) (c7 : Nat) (x7 : List (List Int)) (w : World) (_h0 : (Lit.int .i64 x0).wf = true) (_h1 : (Lit.int .i64 x1).wf = true) (_h2 : (Lit.int .i64 x2).wf = true) (_h3 : (Lit.int .i64 x3).wf = true) (_h4 : (Lit.int .i64 x4).wf = true) (_h5 : (Lit.int .i64 x5).wf = true) (_h6 : (Lit.int .i64 x6).wf = true) (h7 : Rds Nn w 2 a7 x7.length (ints x7.flatten)) (g7 : x7.length ≤ c7 ∧ c7 ≤ maxLen ∧ (a7 = none → x7.length = 0 ∧ c7 = 0)) (i7 : ∀ r ∈ x7, r.length = 2 ∧ ∀ n ∈ r, (Lit.int .i64 n).wf = true) :
    Calls Try.prog 5 #[.agg #[.int .i64 x0, .int .i64 x1, .int .i64 x2, .int .i64 x3, .int .i64 x4, .int .i64 x5], .int .i64 x6, .slice a7 x7.length c7] w fun e w' => e = .returned (.bool true) ∧ Below w.heap.size w w' := by
  have HR := hid h7
  have HI := hid i7
  obtain ⟨g1, g2, g3⟩ := g7
  have HN := hid g3
  clear h7 i7 g3
  by_cases hl : 100 < x7.length
  · go_enter Try.func5, Try.ntmps5
    go_wp2_with fail
    refine (awake_any _).mono ?_
    rintro e w1 ⟨rfl, hb⟩
    have HB := hid hb
    clear hb
    go_wp2
    go_ret
    exact ⟨rfl, ((Below.refl _ _).alloc (Nat.le_refl _) _).trans (HB.out.mono (by simp))⟩
  go_enter Try.func5, Try.ntmps5
  go_wp2_with fail
  refine (start_c _ _ _ _ _ _ _ _).mono ?_
  rintro e w1 ⟨rfl, hb⟩
  have G1 : Hid (Blk w1 (w.heap.size) 23 #[.int .i64 x0, .int .i64 x1, .int .i64 x2, .int .i64 x3, .int .i64 x4, .int .i64 x5]) := hid (Blk.below (Blk.at_new _ (by simp)) hb (by simp <;> omega))
  have B1 : Hid (Below w.heap.size w w1) := hid (Below.trans ((Below.refl _ _).alloc (by simp <;> omega) _) (hb.mono (by simp <;> omega)))
  clear hb
  have cG_0 : ∀ (i : Nat), w1.cell? ⟨w.heap.size, i, none⟩ = (#[.int .i64 x0, .int .i64 x1, .int .i64 x2, .int .i64 x3, .int .i64 x4, .int .i64 x5] : Array Value)[i]? := Blk.cell G1.out
  have cG_1 : ∀ (o0 : Obj) (i : Nat), (w1.alloc o0).cell? ⟨w.heap.size, i, none⟩ = (#[.int .i64 x0, .int .i64 x1, .int .i64 x2, .int .i64 x3, .int .i64 x4, .int .i64 x5] : Array Value)[i]? := fun _ => Blk.cell (Blk.alloc G1.out _)
  go_wp2_with fail
  refine (rstart_c _ _ _ _ _ _ _ _).mono ?_
  rintro e w2 ⟨rfl, hb⟩
  have G2 := hid (Blk.below (Blk.alloc G1.out _) hb (Blk.lt (Blk.alloc G1.out _)))
  have C2 : Hid (Blk w2 (w1.heap.size) 25 #[.int .i64 (startOut x0 x1 x2 x3 x4 x5 x6), .int .i64 0]) := hid (Blk.below (Blk.at_new _ (by simp)) hb (by simp <;> omega))
  have B2 : Hid (Below w.heap.size w w2) := hid (Below.trans (Below.alloc B1.out (Nat.le_trans B1.out.size (by simp <;> omega)) _) (hb.mono (Nat.le_trans B1.out.size (by simp <;> omega))))
  clear hb
  clear cG_0 cG_1
  have cG_0 : ∀ (i : Nat), w2.cell? ⟨w.heap.size, i, none⟩ = (#[.int .i64 x0, .int .i64 x1, .int .i64 x2, .int .i64 x3, .int .i64 x4, .int .i64 x5] : Array Value)[i]? := Blk.cell G2.out
  have cG_1 : ∀ (o0 : Obj) (i : Nat), (w2.alloc o0).cell? ⟨w.heap.size, i, none⟩ = (#[.int .i64 x0, .int .i64 x1, .int .i64 x2, .int .i64 x3, .int .i64 x4, .int .i64 x5] : Array Value)[i]? := fun _ => Blk.cell (Blk.alloc G2.out _)
  have cC_0 : ∀ (i : Nat), w2.cell? ⟨w1.heap.size, i, none⟩ = (#[.int .i64 (startOut x0 x1 x2 x3 x4 x5 x6), .int .i64 0] : Array Value)[i]? := Blk.cell C2.out
  have cC_1 : ∀ (o0 : Obj) (i : Nat), (w2.alloc o0).cell? ⟨w1.heap.size, i, none⟩ = (#[.int .i64 (startOut x0 x1 x2 x3 x4 x5 x6), .int .i64 0] : Array Value)[i]? := fun _ => Blk.cell (Blk.alloc C2.out _)
  have D2 : Hid (Blk (w2.alloc (.cells #[.int .i64 (startOut x0 x1 x2 x3 x4 x5 x6), .int .i64 0] 25)) w2.heap.size 25 #[.int .i64 (startOut x0 x1 x2 x3 x4 x5 x6), .int .i64 0]) := hid (Blk.at_new _ rfl)
  have HC := hid (Blk.alloc C2.out (.cells #[.int .i64 (startOut x0 x1 x2 x3 x4 x5 x6), .int .i64 0] 25))
  have HG := hid (Blk.alloc G2.out (.cells #[.int .i64 (startOut x0 x1 x2 x3 x4 x5 x6), .int .i64 0] 25))
  have HB := hid (Below.alloc B2.out B2.out.size (.cells #[.int .i64 (startOut x0 x1 x2 x3 x4 x5 x6), .int .i64 0] 25))
  go_wp2
  go_loopw [11] (fun i wr => ∃ (k : Nat) (o la : Int), k ≤ x7.length ∧ i = .int .i64 k ∧ Blk wr w.heap.size 23 #[.int .i64 x0, .int .i64 x1, .int .i64 x2, .int .i64 x3, .int .i64 x4, .int .i64 x5] ∧ Blk wr w1.heap.size 25 #[.int .i64 o, .int .i64 la] ∧ Blk wr w2.heap.size 25 #[.int .i64 o, .int .i64 la] ∧ Below w.heap.size w wr) (fun i _ => x7.length - (intOf i).toNat)
  case atStart => exact ⟨0, _, _, Nat.zero_le _, rfl, HG.out, HC.out, D2.out, HB.out⟩
  case round =>
    obtain ⟨k, o, la, hk, rfl, hg, hc, hd, hbel⟩ := hrel
    by_cases hlt : k < x7.length
    · obtain ⟨b, off, rfl, hb, hns, hrd⟩ := Rds.plain HR.out (by omega) (by decide)
      obtain ⟨s, v, hs, hv⟩ := pair_at HI.out hlt
      have c1 : wr.cell? ⟨b, off + k * 2, none⟩ = some (.int .i64 s) := by
        have := hrd _ _ hs; rw [← this, Nat.mul_comm]; exact World.cell?_of_block (hbel.block _ hb)
      have c2 : wr.cell? ⟨b, off + k * 2 + 1, none⟩ = some (.int .i64 v) := by
        have := hrd _ _ hv; rw [← this, Nat.mul_comm]; exact World.cell?_of_block (hbel.block _ hb)
      have hlb := hbel.size
      have HGr := hid hg
      have HCr := hid hc
      have HDr := hid hd
      have HBr := hid hbel
      have HB0 := hid hb
      have hlb := hbel.size
      have HGr := hid hg
      have HCr := hid hc
      have HDr := hid hd
      have HBr := hid hbel
      have HB0 := hid hb
      clear hg hc hd hbel hns hb hs hv hrd
      have l10a := HGr.out.lt
      have l10b := HCr.out.lt
      have l10c := Nat.lt_of_lt_of_le HB0.out HBr.out.size
      have cg := HGr.out.cell
      have cc := HCr.out.cell
      go_upto_region 10 with fail
      go_cut [12, 13] (fun va vh wx => ∃ A : Nat, va = .pointer (some ⟨A, 0, none⟩) ∧ vh = .int .i64 (stepErr x0 x1 x2 x3 x4 x5 o la s v) ∧ Blk wx A 25 #[.int .i64 (nextOut x0 x1 x2 x3 x4 x5 o la s v), .int .i64 (nextLast x0 x1 x2 x3 x4 x5 o la s v)] ∧ wr.heap.size ≤ A ∧ Below wr.heap.size wr wx)
      case first =>
        go_region_held3 (fun w' => (∀ i, w'.cell? ⟨w.heap.size, i, none⟩ = (#[.int .i64 x0, .int .i64 x1, .int .i64 x2, .int .i64 x3, .int .i64 x4, .int .i64 x5] : Array Value)[i]?) ∧ (∀ i, w'.cell? ⟨w1.heap.size, i, none⟩ = (#[.int .i64 o, .int .i64 la] : Array Value)[i]?) ∧ w'.cell? ⟨b, off + k * 2, none⟩ = some (.int .i64 s) ∧ w'.cell? ⟨b, off + k * 2 + 1, none⟩ = some (.int .i64 v))
          (first | exact ⟨cg, cc, c1, c2⟩ | exact s5 | exact ⟨(Blk.alloc G5.out _).cell, (Blk.alloc C5.out _).cell, cell_alloc e1.out (Nat.lt_of_lt_of_le l10c T.out.size), cell_alloc e2.out (Nat.lt_of_lt_of_le l10c T.out.size)⟩ | exact ⟨(Blk.alloc HGr.out _).cell, (Blk.alloc HCr.out _).cell, cell_alloc c1 l10c, cell_alloc c2 l10c⟩ | exact ⟨(Blk.other (Blk.other G5.out (by simp; omega) _) (by simp; omega) _).cell, (Blk.other (Blk.other C5.out (by simp; omega) _) (by simp; omega) _).cell, cell_two e1.out ⟨l10c, l10c⟩, cell_two e2.out ⟨l10c, l10c⟩⟩)
          (first
          | (go_at_call 17; refine (step_c _ _ _ _ _ _ _ _ _ _ _).mono ?_; rintro e w5 ⟨rfl, hb⟩; have T : Hid (Below wr.heap.size wr w5) := hid (Below.trans (Below.drew (Below.refl _ _)) (hb.mono (by simp))); have G5 := hid (Blk.below HGr.out T.out l10a); have C5 := hid (Blk.below HCr.out T.out l10b); have e1 := hid ((cell_below T.out (a := ⟨b, off + k * 2, none⟩) l10c).trans c1); have e2 := hid ((cell_below T.out (a := ⟨b, off + k * 2 + 1, none⟩) l10c).trans c2); have s5 := And.intro G5.out.cell (And.intro C5.out.cell (And.intro e1.out e2.out)); clear hb)
          | (go_at_call 17; refine (step_c _ _ _ _ _ _ _ _ _ _ _).mono ?_; rintro e w5 ⟨rfl, hb⟩; have T : Hid (Below wr.heap.size wr w5) := hid (Below.trans (Below.drew (Below.alloc (Below.refl _ _) (Nat.le_refl _) _)) (hb.mono (by simp))); have A5 := hid (Blk.below (Blk.drew (Blk.at_new wr rfl)) hb (by simp)); have G5 := hid (Blk.below HGr.out T.out l10a); have C5 := hid (Blk.below HCr.out T.out l10b); have e1 := hid ((cell_below T.out (a := ⟨b, off + k * 2, none⟩) l10c).trans c1); have e2 := hid ((cell_below T.out (a := ⟨b, off + k * 2 + 1, none⟩) l10c).trans c2); have s5 := And.intro G5.out.cell (And.intro C5.out.cell (And.intro e1.out e2.out)); have a5 := A5.out.cell; have f5 := A5.out.frozen; clear hb))
        all_goals go_wp2_with fail
        all_goals go_meet
        all_goals first | exact ⟨_, rfl, rfl, Blk.at_new _ rfl, T.out.size, Below.alloc T.out T.out.size _⟩ | exact ⟨_, rfl, rfl, Blk.set (Blk.set A5.out 0 _) 1 _, Nat.le_refl _, Below.setCell (Below.setCell T.out (by simp) _) (by simp) _⟩
      case rest =>
        obtain ⟨A, rfl, rfl, hA, hAge, hbw⟩ := hcut
        have HA := hid hA
        have HG6 := hid (Blk.below HGr.out hbw l10a)
        have HC6 := hid (Blk.below HCr.out hbw l10b)
        have HD6 := hid (Blk.below HDr.out hbw HDr.out.lt)
        have HB6 := hid (HBr.out.trans (hbw.mono HBr.out.size))
        have E1 := hid ((cell_below hbw (a := ⟨b, off + k * 2, none⟩) l10c).trans c1)
        have E2 := hid ((cell_below hbw (a := ⟨b, off + k * 2 + 1, none⟩) l10c).trans c2)
        have ldA : w2.heap.size < A := Nat.lt_of_lt_of_le HDr.out.lt hAge
        clear hA hbw c1 c2 cg cc hAge
        have l11a := HG6.out.lt
        have l11b := HD6.out.lt
        have l11c := Nat.lt_of_lt_of_le HB0.out HB6.out.size
        have cg := HG6.out.cell
        have cc := HD6.out.cell
        go_upto_region 11 with fail
        go_cut [14, 15] (fun va vh wx => ∃ A : Nat, va = .pointer (some ⟨A, 0, none⟩) ∧ vh = .int .i64 (stepErr x0 x1 x2 x3 x4 x5 o la s v) ∧ Blk wx A 25 #[.int .i64 (nextOut x0 x1 x2 x3 x4 x5 o la s v), .int .i64 (nextLast x0 x1 x2 x3 x4 x5 o la s v)] ∧ wc.heap.size ≤ A ∧ Below wc.heap.size wc wx)
        case first =>
          go_region_held3 (fun w' => (∀ i, w'.cell? ⟨w.heap.size, i, none⟩ = (#[.int .i64 x0, .int .i64 x1, .int .i64 x2, .int .i64 x3, .int .i64 x4, .int .i64 x5] : Array Value)[i]?) ∧ (∀ i, w'.cell? ⟨w2.heap.size, i, none⟩ = (#[.int .i64 o, .int .i64 la] : Array Value)[i]?) ∧ w'.cell? ⟨b, off + k * 2, none⟩ = some (.int .i64 s) ∧ w'.cell? ⟨b, off + k * 2 + 1, none⟩ = some (.int .i64 v))
            (first | exact ⟨cg, cc, E1.out, E2.out⟩ | exact s5 | exact ⟨(Blk.alloc G5.out _).cell, (Blk.alloc C5.out _).cell, cell_alloc e1.out (Nat.lt_of_lt_of_le l11c T.out.size), cell_alloc e2.out (Nat.lt_of_lt_of_le l11c T.out.size)⟩ | exact ⟨(Blk.alloc HG6.out _).cell, (Blk.alloc HD6.out _).cell, cell_alloc E1.out l11c, cell_alloc E2.out l11c⟩ | exact ⟨(Blk.other (Blk.other G5.out (by simp; omega) _) (by simp; omega) _).cell, (Blk.other (Blk.other C5.out (by simp; omega) _) (by simp; omega) _).cell, cell_two e1.out ⟨l11c, l11c⟩, cell_two e2.out ⟨l11c, l11c⟩⟩)
            (first
            | (go_at_call 18; refine (rstep_c _ _ _ _ _ _ _ _ _ _ _).mono ?_; rintro e w5 ⟨rfl, hb⟩; have T : Hid (Below wc.heap.size wc w5) := hid (Below.trans (Below.drew (Below.refl _ _)) (hb.mono (by simp))); have G5 := hid (Blk.below HG6.out T.out l11a); have C5 := hid (Blk.below HD6.out T.out l11b); have e1 := hid ((cell_below T.out (a := ⟨b, off + k * 2, none⟩) l11c).trans E1.out); have e2 := hid ((cell_below T.out (a := ⟨b, off + k * 2 + 1, none⟩) l11c).trans E2.out); have s5 := And.intro G5.out.cell (And.intro C5.out.cell (And.intro e1.out e2.out)); clear hb)
            | (go_at_call 18; refine (rstep_c _ _ _ _ _ _ _ _ _ _ _).mono ?_; rintro e w5 ⟨rfl, hb⟩; have T : Hid (Below wc.heap.size wc w5) := hid (Below.trans (Below.drew (Below.alloc (Below.refl _ _) (Nat.le_refl _) _)) (hb.mono (by simp))); have A5 := hid (Blk.below (Blk.drew (Blk.at_new wc rfl)) hb (by simp)); have G5 := hid (Blk.below HG6.out T.out l11a); have C5 := hid (Blk.below HD6.out T.out l11b); have e1 := hid ((cell_below T.out (a := ⟨b, off + k * 2, none⟩) l11c).trans E1.out); have e2 := hid ((cell_below T.out (a := ⟨b, off + k * 2 + 1, none⟩) l11c).trans E2.out); have s5 := And.intro G5.out.cell (And.intro C5.out.cell (And.intro e1.out e2.out)); have a5 := A5.out.cell; have f5 := A5.out.frozen; clear hb))
          all_goals go_wp2_with fail
          all_goals go_meet
          all_goals first | exact ⟨_, rfl, rfl, Blk.at_new _ rfl, T.out.size, Below.alloc T.out T.out.size _⟩ | exact ⟨_, rfl, rfl, Blk.set (Blk.set A5.out 0 _) 1 _, Nat.le_refl _, Below.setCell (Below.setCell T.out (by simp) _) (by simp) _⟩
        case rest =>
          obtain ⟨A2, rfl, rfl, hA2, hAge2, hbw⟩ := hcut
          have HA7 := hid (Blk.below HA.out hbw HA.out.lt)
          have HG7 := hid (Blk.below HG6.out hbw l11a)
          have HD7 := hid (Blk.below HD6.out hbw l11b)
          have HC7 := hid (Blk.below HC6.out hbw HC6.out.lt)
          have HA8 := hid hA2
          have HB7 := hid (HB6.out.trans (hbw.mono HB6.out.size))
          have ldB : A < A2 := Nat.lt_of_lt_of_le HA.out.lt hAge2
          clear hbw hA2 hAge2 cg cc
          have ca := HA7.out.cell
          have cb := HA8.out.cell
          by_cases he : stepErr x0 x1 x2 x3 x4 x5 o la s v = 0
          · go_wp2_with fail
            have cc := HC7.out.cell
            have fc := HC7.out.frozen
            have cd := HD7.out.cell
            have fd := HD7.out.frozen
            have l15a := HC7.out.lt
            have l15b := HD7.out.lt
            have l12 := C2.out.lt
            have lg1 := G1.out.lt
            have oB : ∀ u0 u1 i, ((wc.setCell ⟨w1.heap.size, 0, none⟩ u0).setCell ⟨w1.heap.size, 1, none⟩ u1).cell? ⟨A2, i, none⟩ = (#[.int .i64 (nextOut x0 x1 x2 x3 x4 x5 o la s v), .int .i64 (nextLast x0 x1 x2 x3 x4 x5 o la s v)] : Array Value)[i]? := fun u0 u1 => Blk.cell (Blk.other (Blk.other HA8.out (by simp; omega) _) (by simp; omega) _)
            have oD : ∀ u0 u1 i, ((wc.setCell ⟨w1.heap.size, 0, none⟩ u0).setCell ⟨w1.heap.size, 1, none⟩ u1).cell? ⟨w2.heap.size, i, none⟩ = (#[.int .i64 o, .int .i64 la] : Array Value)[i]? := fun u0 u1 => Blk.cell (Blk.other (Blk.other HD7.out (by simp; omega) _) (by simp; omega) _)
            have oF : ∀ u0 u1 i, ((wc.setCell ⟨w1.heap.size, 0, none⟩ u0).setCell ⟨w1.heap.size, 1, none⟩ u1).frozen? ⟨w2.heap.size, i, none⟩ = false := fun u0 u1 => Blk.frozen (Blk.other (Blk.other HD7.out (by simp; omega) _) (by simp; omega) _)
            go_region
            all_goals go_wp2
            all_goals refine ⟨⟨k + 1, _, _, by omega, by go_num, Blk.drew (Blk.other (Blk.other (Blk.other (Blk.other HG7.out (by simp; omega) _) (by simp; omega) _) (by simp; omega) _) (by simp; omega) _), Blk.drew (Blk.other (Blk.other (Blk.set (Blk.set HC7.out 0 _) 1 _) (by simp; omega) _) (by simp; omega) _), Blk.drew (Blk.set (Blk.set (Blk.other (Blk.other HD7.out (by simp; omega) _) (by simp; omega) _) 0 _) 1 _), Below.drew (Below.setCell (Below.setCell (Below.setCell (Below.setCell HB7.out (by simp; omega) _) (by simp; omega) _) (by simp; omega) _) (by simp; omega) _)⟩, by simp [intOf]; omega⟩
          · have he2 : (stepErr x0 x1 x2 x3 x4 x5 o la s v == 0) = false := by simpa using he
            go_wp2
            refine ⟨⟨k + 1, o, la, by omega, by go_num, HG7.out, HC7.out, HD7.out, HB7.out⟩, by simp [intOf]; omega⟩
    · have hkn : k = x7.length := by omega
      have HBr := hid hbel
      clear hg hc hd hbel
      go_wp2_with fail
      refine (awake_any _).mono ?_
      rintro e w5 ⟨rfl, hb⟩
      have B5 := hid (HBr.out.trans (hb.mono HBr.out.size))
      clear hb
      go_wp2
      go_ret
      exact ⟨rfl, B5.out⟩
end Go.Proofs.Ythekpbkmoejgmaa
