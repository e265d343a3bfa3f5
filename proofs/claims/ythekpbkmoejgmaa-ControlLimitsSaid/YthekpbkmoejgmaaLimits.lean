/- ControlLimits. -/
import Derived.Test.YthekpbkmoejgmaaRuns
import Derived.Test.YthekpbkmoejgmaaSaturates
namespace Go.Proofs.Ythekpbkmoejgmaa
open Go.RowKit


theorem lim_step {kp ki sh lo hi rate o la s v : Int} (h : stepErr kp ki sh lo hi rate o la s v = 0) :
    lo ≤ nextOut kp ki sh lo hi rate o la s v ∧ nextOut kp ki sh lo hi rate o la s v ≤ hi ∧ nextOut kp ki sh lo hi rate o la s v - o ≤ rate ∧ o - nextOut kp ki sh lo hi rate o la s v ≤ rate ∧ nextLast kp ki sh lo hi rate o la s v = s - v ∧ lo ≤ o ∧ o ≤ hi ∧ -33554432 ≤ s ∧ s ≤ 33554432 ∧ -33554432 ≤ v ∧ v ≤ 33554432 ∧ chk kp ki sh lo hi rate = 0 := by
  have hn : nextLast kp ki sh lo hi rate o la s v = s - v := by unfold nextLast; rw [if_pos h]
  have ho : nextOut kp ki sh lo hi rate o la s v = stepOut kp ki sh lo hi rate o la s v := by unfold nextOut; rw [if_pos h]
  rw [hn, ho]
  unfold stepErr at h
  split at h
  · rename_i hq; exact absurd h hq
  · rename_i hq
    have hc : chk kp ki sh lo hi rate = 0 := by simpa using hq
    obtain ⟨b1, b2, b3, b4, b5, b6, b7⟩ := chk_ok hc
    split at h
    · rename_i hb
      simp only [Bool.and_eq_true] at hb
      have i1 := inB_true hb.1
      split at h
      · rename_i hb2
        simp only [Bool.and_eq_true] at hb2
        have i2 := inB_true hb2.1
        have i3 := inB_true hb2.2
        unfold stepOut chg
        generalize (kp * (s - v - la) + ki * (s - v)) / 2 ^ sh.toNat = q
        refine ⟨?_, ?_, ?_, ?_, rfl, i1.1, i1.2, i2.1, i2.2, i3.1, i3.2, hc⟩ <;> (unfold clampI; omega)
      · cases h
    · cases h
theorem lim_zero {kp ki sh lo hi rate o la s v : Int} (h : ¬ stepErr kp ki sh lo hi rate o la s v = 0) : nextOut kp ki sh lo hi rate o la s v = 0 ∧ nextLast kp ki sh lo hi rate o la s v = 0 := by
  unfold nextOut nextLast; rw [if_neg h, if_neg h]; exact ⟨rfl, rfl⟩

set_option maxRecDepth 100000 in
set_option maxHeartbeats 1000000 in
theorem controlLimits_walk (x0 : Int) (x1 : Int) (x2 : Int) (x3 : Int) (x4 : Int) (x5 : Int) (x6 : Int) (a7 : Option Addr) (c7 : Nat) (x7 : List (List Int)) (w : World) (_h0 : (Lit.int .i64 x0).wf = true) (_h1 : (Lit.int .i64 x1).wf = true) (_h2 : (Lit.int .i64 x2).wf = true) (_h3 : (Lit.int .i64 x3).wf = true) (_h4 : (Lit.int .i64 x4).wf = true) (_h5 : (Lit.int .i64 x5).wf = true) (_h6 : (Lit.int .i64 x6).wf = true) (h7 : Rds Nn w 2 a7 x7.length (ints x7.flatten)) (g7 : x7.length ≤ c7 ∧ c7 ≤ maxLen ∧ (a7 = none → x7.length = 0 ∧ c7 = 0)) (i7 : ∀ r ∈ x7, r.length = 2 ∧ ∀ n ∈ r, (Lit.int .i64 n).wf = true) :
    Calls Try.prog 6 #[.agg #[.int .i64 x0, .int .i64 x1, .int .i64 x2, .int .i64 x3, .int .i64 x4, .int .i64 x5], .int .i64 x6, .slice a7 x7.length c7] w fun e w' => e = .returned (.bool true) ∧ Below w.heap.size w w' := by
  have HR := hid h7
  have HI := hid i7
  obtain ⟨g1, g2, g3⟩ := g7
  have HN := hid g3
  clear h7 i7 g3
  by_cases hl : 100 < x7.length
  · go_enter Try.func6, Try.ntmps6
    go_wp2_with fail
    refine (awake_any _).mono ?_
    rintro e w1 ⟨rfl, hb⟩
    have HB := hid hb
    clear hb
    go_wp2
    go_ret
    exact ⟨rfl, ((Below.refl _ _).alloc (Nat.le_refl _) _).trans (HB.out.mono (by simp))⟩
  by_cases hs : startErr x0 x1 x2 x3 x4 x5 x6 = 0
  · have HO := hid (start_ok hs)
    have hso : startOut x0 x1 x2 x3 x4 x5 x6 = x6 := HO.out.2.2.2
    have b1 := HO.out.2.1
    have b2 := HO.out.2.2.1
    go_enter Try.func6, Try.ntmps6
    go_wp2_with fail
    refine (start_c _ _ _ _ _ _ _ _).mono ?_
    rintro e w1 ⟨rfl, hb⟩
    have G1 : Hid (Blk w1 (w.heap.size) 23 #[.int .i64 x0, .int .i64 x1, .int .i64 x2, .int .i64 x3, .int .i64 x4, .int .i64 x5]) := hid (Blk.below (Blk.at_new _ (by simp)) hb (by simp <;> omega))
    have B1 : Hid (Below w.heap.size w w1) := hid (Below.trans ((Below.refl _ _).alloc (by simp <;> omega) _) (hb.mono (by simp <;> omega)))
    clear hb
    have cG_0 : ∀ (i : Nat), w1.cell? ⟨w.heap.size, i, none⟩ = (#[.int .i64 x0, .int .i64 x1, .int .i64 x2, .int .i64 x3, .int .i64 x4, .int .i64 x5] : Array Value)[i]? := Blk.cell G1.out
    have cG_1 : ∀ (o0 : Obj) (i : Nat), (w1.alloc o0).cell? ⟨w.heap.size, i, none⟩ = (#[.int .i64 x0, .int .i64 x1, .int .i64 x2, .int .i64 x3, .int .i64 x4, .int .i64 x5] : Array Value)[i]? := fun _ => Blk.cell (Blk.alloc G1.out _)
    have SC : Hid (Blk (w1.alloc (.cells #[.int .i64 x6, .int .i64 0] 25)) w1.heap.size 25 #[.int .i64 x6, .int .i64 0]) := hid (Blk.at_new _ rfl)
    have SG := hid (Blk.alloc G1.out (.cells #[.int .i64 x6, .int .i64 0] 25))
    have SB := hid (Below.alloc B1.out B1.out.size (.cells #[.int .i64 x6, .int .i64 0] 25))
    have lg1 := G1.out.lt
    go_wp2_with fail
    go_loopw [9] (fun i wr => ∃ (k : Nat) (o la : Int), k ≤ x7.length ∧ i = .int .i64 k ∧ Blk wr w.heap.size 23 #[.int .i64 x0, .int .i64 x1, .int .i64 x2, .int .i64 x3, .int .i64 x4, .int .i64 x5] ∧ Blk wr w1.heap.size 25 #[.int .i64 o, .int .i64 la] ∧ Below w.heap.size w wr) (fun i _ => x7.length - (intOf i).toNat)
    case atStart => exact ⟨0, _, _, Nat.zero_le _, rfl, SG.out, SC.out, SB.out⟩
    case round =>
      obtain ⟨k, o, la, hk, rfl, hg, hc, hbel⟩ := hrel
      by_cases hlt : k < x7.length
      · obtain ⟨b, off, rfl, hb, hns, hrd⟩ := Rds.plain HR.out (by omega) (by decide)
        obtain ⟨s, v, hs3, hv⟩ := pair_at HI.out hlt
        have c1 : wr.cell? ⟨b, off + k * 2, none⟩ = some (.int .i64 s) := by
          have := hrd _ _ hs3; rw [← this, Nat.mul_comm]; exact World.cell?_of_block (hbel.block _ hb)
        have c2 : wr.cell? ⟨b, off + k * 2 + 1, none⟩ = some (.int .i64 v) := by
          have := hrd _ _ hv; rw [← this, Nat.mul_comm]; exact World.cell?_of_block (hbel.block _ hb)
        have HGr := hid hg
        have HCr := hid hc
        have HBr := hid hbel
        have HB0 := hid hb
        clear hg hc hbel hns hb hs3 hv hrd
        go_wp2
        have l11a := HGr.out.lt
        have l11b := HCr.out.lt
        have l11c := Nat.lt_of_lt_of_le HB0.out HBr.out.size
        have cg := HGr.out.cell
        have cc := HCr.out.cell
        go_upto_region 11 with fail
        go_cut [10, 11] (fun va vh wx => ∃ A : Nat, va = .pointer (some ⟨A, 0, none⟩) ∧ vh = .int .i64 (stepErr x0 x1 x2 x3 x4 x5 o la s v) ∧ Blk wx A 25 #[.int .i64 (nextOut x0 x1 x2 x3 x4 x5 o la s v), .int .i64 (nextLast x0 x1 x2 x3 x4 x5 o la s v)] ∧ wr.heap.size ≤ A ∧ Below wr.heap.size wr wx)
        case first =>
          go_region_held3 (fun w' => (∀ i, w'.cell? ⟨w.heap.size, i, none⟩ = (#[.int .i64 x0, .int .i64 x1, .int .i64 x2, .int .i64 x3, .int .i64 x4, .int .i64 x5] : Array Value)[i]?) ∧ (∀ i, w'.cell? ⟨w1.heap.size, i, none⟩ = (#[.int .i64 o, .int .i64 la] : Array Value)[i]?) ∧ w'.cell? ⟨b, off + k * 2, none⟩ = some (.int .i64 s) ∧ w'.cell? ⟨b, off + k * 2 + 1, none⟩ = some (.int .i64 v))
            (first | exact ⟨cg, cc, c1, c2⟩ | exact s5 | exact ⟨(Blk.alloc G5.out _).cell, (Blk.alloc C5.out _).cell, cell_alloc e1.out (Nat.lt_of_lt_of_le l11c T.out.size), cell_alloc e2.out (Nat.lt_of_lt_of_le l11c T.out.size)⟩ | exact ⟨(Blk.alloc HGr.out _).cell, (Blk.alloc HCr.out _).cell, cell_alloc c1 l11c, cell_alloc c2 l11c⟩ | exact ⟨(Blk.other (Blk.other G5.out (by simp; omega) _) (by simp; omega) _).cell, (Blk.other (Blk.other C5.out (by simp; omega) _) (by simp; omega) _).cell, cell_two e1.out ⟨l11c, l11c⟩, cell_two e2.out ⟨l11c, l11c⟩⟩)
            (first
            | (go_at_call 17; refine (step_c _ _ _ _ _ _ _ _ _ _ _).mono ?_; rintro e w5 ⟨rfl, hb⟩; have T : Hid (Below wr.heap.size wr w5) := hid (Below.trans (Below.drew (Below.refl _ _)) (hb.mono (by simp))); have G5 := hid (Blk.below HGr.out T.out l11a); have C5 := hid (Blk.below HCr.out T.out l11b); have e1 := hid ((cell_below T.out (a := ⟨b, off + k * 2, none⟩) l11c).trans c1); have e2 := hid ((cell_below T.out (a := ⟨b, off + k * 2 + 1, none⟩) l11c).trans c2); have s5 := And.intro G5.out.cell (And.intro C5.out.cell (And.intro e1.out e2.out)); clear hb)
            | (go_at_call 17; refine (step_c _ _ _ _ _ _ _ _ _ _ _).mono ?_; rintro e w5 ⟨rfl, hb⟩; have T : Hid (Below wr.heap.size wr w5) := hid (Below.trans (Below.drew (Below.alloc (Below.refl _ _) (Nat.le_refl _) _)) (hb.mono (by simp))); have A5 := hid (Blk.below (Blk.drew (Blk.at_new wr rfl)) hb (by simp)); have G5 := hid (Blk.below HGr.out T.out l11a); have C5 := hid (Blk.below HCr.out T.out l11b); have e1 := hid ((cell_below T.out (a := ⟨b, off + k * 2, none⟩) l11c).trans c1); have e2 := hid ((cell_below T.out (a := ⟨b, off + k * 2 + 1, none⟩) l11c).trans c2); have s5 := And.intro G5.out.cell (And.intro C5.out.cell (And.intro e1.out e2.out)); have a5 := A5.out.cell; have f5 := A5.out.frozen; clear hb))
          all_goals go_wp2_with fail
          all_goals go_meet
          all_goals first | exact ⟨_, rfl, rfl, Blk.at_new _ rfl, T.out.size, Below.alloc T.out T.out.size _⟩ | exact ⟨_, rfl, rfl, Blk.set (Blk.set A5.out 0 _) 1 _, Nat.le_refl _, Below.setCell (Below.setCell T.out (by simp) _) (by simp) _⟩
        case rest =>
          obtain ⟨A, rfl, rfl, hA, hAge, hbw⟩ := hcut
          have HA := hid hA
          have HG6 := hid (Blk.below HGr.out hbw l11a)
          have HC6 := hid (Blk.below HCr.out hbw l11b)
          have HB6 := hid (HBr.out.trans (hbw.mono HBr.out.size))
          have e1 : wc.cell? ⟨b, off + k * 2, none⟩ = some (.int .i64 s) := (cell_below hbw (a := ⟨b, off + k * 2, none⟩) l11c).trans c1
          have e2 : wc.cell? ⟨b, off + k * 2 + 1, none⟩ = some (.int .i64 v) := (cell_below hbw (a := ⟨b, off + k * 2 + 1, none⟩) l11c).trans c2
          have ldA : w1.heap.size < A := Nat.lt_of_lt_of_le HCr.out.lt hAge
          clear hA hbw c1 c2 cg cc hAge
          have ca := HA.out.cell
          by_cases he : stepErr x0 x1 x2 x3 x4 x5 o la s v = 0
          · obtain ⟨p1, p2, p3, p4, p5, p6, p7, p8, p9, p10, p11, p12⟩ := lim_step he
            obtain ⟨b1, b2, b3, b4, b5, b6, b7⟩ := chk_ok p12
            rw [p5] at ca HA
            have cg := HG6.out.cell
            have cc := HC6.out.cell
            have fc := HC6.out.frozen
            generalize nextOut x0 x1 x2 x3 x4 x5 o la s v = y at *
            clear p5
            have d1 : decide (y < x3) = false := decide_eq_false (by omega)
            have d2 : decide (y > x4) = false := decide_eq_false (by omega)
            have d3 : decide (y - o > x5) = false := decide_eq_false (by omega)
            have d4 : decide (o - y > x5) = false := decide_eq_false (by omega)
            have d5 : decide (x4 < y) = false := decide_eq_false (by omega)
            have d6 : decide (x5 < y - o) = false := decide_eq_false (by omega)
            have d7 : decide (x5 < o - y) = false := decide_eq_false (by omega)
            have d8 : ((s - v) != (s - v)) = false := by simp
            have d9 : (k : Int) < (x7.length : Int) := by omega
            go_wp2_with fail
            go_quiet (fail)
            go_wp2_with fail
            have lg2 := lg1
            refine ⟨⟨k + 1, _, _, by omega, by go_num, Blk.other (Blk.other (HG6.out.drewN nq) (by simp; omega) _) (by simp; omega) _, Blk.set (Blk.set (HC6.out.drewN nq) 0 _) 1 _, Below.setCell (Below.setCell (HB6.out.trans (((Chg.refl Nn wc).drewN nq).below HB6.out.size (fun _ _ => id))) (by simp; omega) _) (by simp; omega) _⟩, by simp [intOf]; omega⟩
          · have q := lim_zero he
            rw [q.1, q.2] at ca
            clear q
            have he2 : (stepErr x0 x1 x2 x3 x4 x5 o la s v != 0) = true := by simpa using he
            go_wp2_with fail
            exact ⟨⟨k + 1, o, la, by omega, by go_num, HG6.out, HC6.out, HB6.out⟩, by simp [intOf]; omega⟩
      · have hkn : k = x7.length := by omega
        have HBr := hid hbel
        clear hg hc hbel
        go_wp2_with fail
        refine (awake_any _).mono ?_
        rintro e w5 ⟨rfl, hb⟩
        have B5 := hid (HBr.out.trans (hb.mono HBr.out.size))
        clear hb
        go_wp2
        go_ret
        exact ⟨rfl, B5.out⟩
  · have hso : startOut x0 x1 x2 x3 x4 x5 x6 = 0 := by unfold startOut; rw [if_neg hs]
    have hs2 : (startErr x0 x1 x2 x3 x4 x5 x6 != 0) = true := by simpa using hs
    go_enter Try.func6, Try.ntmps6
    go_wp2_with fail
    refine (start_c _ _ _ _ _ _ _ _).mono ?_
    rintro e w1 ⟨rfl, hb⟩
    have G1 : Hid (Blk w1 (w.heap.size) 23 #[.int .i64 x0, .int .i64 x1, .int .i64 x2, .int .i64 x3, .int .i64 x4, .int .i64 x5]) := hid (Blk.below (Blk.at_new _ (by simp)) hb (by simp <;> omega))
    have B1 : Hid (Below w.heap.size w w1) := hid (Below.trans ((Below.refl _ _).alloc (by simp <;> omega) _) (hb.mono (by simp <;> omega)))
    clear hb
    have cG_0 : ∀ (i : Nat), w1.cell? ⟨w.heap.size, i, none⟩ = (#[.int .i64 x0, .int .i64 x1, .int .i64 x2, .int .i64 x3, .int .i64 x4, .int .i64 x5] : Array Value)[i]? := Blk.cell G1.out
    have cG_1 : ∀ (o0 : Obj) (i : Nat), (w1.alloc o0).cell? ⟨w.heap.size, i, none⟩ = (#[.int .i64 x0, .int .i64 x1, .int .i64 x2, .int .i64 x3, .int .i64 x4, .int .i64 x5] : Array Value)[i]? := fun _ => Blk.cell (Blk.alloc G1.out _)
    go_wp2_with fail
    refine (awake_any _).mono ?_
    rintro e w2 ⟨rfl, hb⟩
    have B2 : Hid (Below w.heap.size w w2) := hid (Below.trans (Below.alloc B1.out B1.out.size _) (hb.mono (Nat.le_trans B1.out.size (by simp))))
    clear hb
    go_wp2
    go_ret
    exact ⟨rfl, B2.out⟩
end Go.Proofs.Ythekpbkmoejgmaa
