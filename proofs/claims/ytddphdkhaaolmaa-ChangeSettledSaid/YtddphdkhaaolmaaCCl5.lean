/- Closed loops: the reference's Run. -/
import Derived.Test.YtddphdkhaaolmaaCCl3
namespace Go.Proofs.Ytddphdkhaaolmaa
open Go.RowKit

section
variable {kp ki sh lo hi rate ga la x d : Int} {D : Nat} {s : SS}
theorem step_err (hc : chkC kp ki sh lo hi rate ga la (D : Int) = 0) (hi' : Inv lo hi la D s) (hx : absB x 16777216 = true) : Ct.stepErr kp ki sh lo hi rate s.out s.last x s.v = 0 := by
  obtain ⟨h1, h2, _, _⟩ := chkC_ok hc
  have vb := hi'.vb h2
  have xb := absB_true hx
  unfold Ct.stepErr
  rw [if_neg (by omega), Ct.inB_mk hi'.out.1 hi'.out.2, Ct.inB_mk hi'.last.1 hi'.last.2, Ct.inB_mk (n := x) (lo := -33554432) (hi := 33554432) (by omega) (by omega), Ct.inB_mk vb.1 vb.2]
  rfl
theorem step_res (se : Ct.stepErr kp ki sh lo hi rate s.out s.last x s.v = 0) : Ct.stepRes kp ki sh lo hi rate s.out s.last x s.v = .tuple #[.agg #[.int .i64 (nx kp ki sh lo hi rate ga la s x d).out, .int .i64 (nx kp ki sh lo hi rate ga la s x d).last], .int .i64 0] := by
  unfold Ct.stepRes
  rw [se, if_pos rfl, if_pos rfl]
  rfl
theorem nx_parts (hc : chkC kp ki sh lo hi rate ga la (D : Int) = 0) (hd : absB d 65536 = true) :
    pErr (nx kp ki sh lo hi rate ga la s x d).out d = 0 ∧ pR ga la s.v s.xs (nx kp ki sh lo hi rate ga la s x d).out d = (nx kp ki sh lo hi rate ga la s x d).v ∧ pXs s.xs (nx kp ki sh lo hi rate ga la s x d).out d = (nx kp ki sh lo hi rate ga la s x d).xs ∧ pV ga la s.v s.xs (nx kp ki sh lo hi rate ga la s x d).out d = (nx kp ki sh lo hi rate ga la s x d).v := by
  have h1 := (chkC_ok hc).1
  have so := step_in (hi := hi) h1 s.out s.last x s.v
  have ck := Ct.chk_ok h1
  have so2 : absB (nx kp ki sh lo hi rate ga la s x d).out 16777216 = true := absB_mk (by have := so.1; simp only [nx]; omega) (by have := so.2; simp only [nx]; omega)
  have he : pErr (nx kp ki sh lo hi rate ga la s x d).out d = 0 := by unfold pErr; rw [so2, hd]; rfl
  unfold pR pV pXs
  rw [he, if_pos rfl, if_pos rfl, if_pos rfl]
  exact ⟨rfl, rfl, rfl, rfl⟩
end
set_option linter.unusedSimpArgs false in
theorem begins_any (kp ki sh lo hi rate ga la de out v : Int) (w : World) : Calls Try.prog 80 #[.agg #[.int .i64 kp, .int .i64 ki, .int .i64 sh, .int .i64 lo, .int .i64 hi, .int .i64 rate, .int .i64 ga, .int .i64 la, .int .i64 de], .int .i64 out, .int .i64 v] w fun e w' => e = .returned (.bool (okB lo hi out v)) ∧ Below w.heap.size w w' := by
  have G0 : Hid (Blk (w.alloc (.cells #[.int .i64 kp, .int .i64 ki, .int .i64 sh, .int .i64 lo, .int .i64 hi, .int .i64 rate, .int .i64 ga, .int .i64 la, .int .i64 de] 27)) w.heap.size 27 #[.int .i64 kp, .int .i64 ki, .int .i64 sh, .int .i64 lo, .int .i64 hi, .int .i64 rate, .int .i64 ga, .int .i64 la, .int .i64 de]) := hid (Blk.at_new _ rfl)
  have cG := G0.out.cell
  cases hs : absB v 16777216
  all_goals
    by_cases h1 : lo ≤ out
    all_goals by_cases h2 : out ≤ hi
  all_goals
    have R : Hid ((absB v 16777216 && (decide (lo ≤ out) && decide (out ≤ hi))) = okB lo hi out v) := hid rfl
    simp only [hs, h1, h2, decide_true, decide_false, Bool.and_true, Bool.and_false, Bool.true_and, Bool.false_and] at R
    go_enter Try.func80, Try.ntmps80
    go_wp2_with (go_at_call 74; refine (rsignal_any _ _).mono ?_; rintro e v9 ⟨rfl, rfl⟩)
    go_ret
    exact ⟨ret_b R.out, (Below.refl _ _).alloc (by simp) _⟩
set_option maxRecDepth 100000 in
set_option maxHeartbeats 8000000 in
theorem rrun_any (kp ki sh lo hi rate ga la de : Int) (out v : Int) (a1 a2 : Option Addr) (c1 c2 : Nat) (sets dist : List Int) (w : World) (r1 : Rds Nn w 1 a1 sets.length (ints sets)) (r2 : Rds Nn w 1 a2 dist.length (ints dist)) (n1 : sets.length ≤ 1000000) : Calls Try.prog 53 #[.agg #[.int .i64 kp, .int .i64 ki, .int .i64 sh, .int .i64 lo, .int .i64 hi, .int .i64 rate, .int .i64 ga, .int .i64 la, .int .i64 de], .int .i64 out, .int .i64 v, .slice a1 sets.length c1, .slice a2 dist.length c2] w (RunPost kp ki sh lo hi rate ga la de out v sets dist w) := by
  have R1 := hid r1
  have R2 := hid r2
  clear r1 r2
  by_cases hc : chkC kp ki sh lo hi rate ga la de = 0
  · have HC := hid hc
    by_cases h5 : 512 < sets.length
    · have R : Hid (8 = runErr kp ki sh lo hi rate ga la de out v sets dist) := hid (by simp [runErr, hc, h5])
      go_enter Try.func53, Try.ntmps53
      go_wp2_with fail
      refine (rccheck_any _ _ _ _ _ _ _ _ _ _).mono ?_
      rintro e w1 ⟨rfl, hb⟩
      have C1 : Hid (Blk w1 (w.heap.size) 27 #[.int .i64 kp, .int .i64 ki, .int .i64 sh, .int .i64 lo, .int .i64 hi, .int .i64 rate, .int .i64 ga, .int .i64 la, .int .i64 de]) := hid (Blk.below (Blk.at_new _ (by simp)) hb (by simp <;> omega))
      have B1 : Hid (Below w.heap.size w w1) := hid (Below.trans ((Below.refl _ _).alloc (by simp <;> omega) _) (hb.mono (by simp <;> omega)))
      clear hb
      have cC_0 : ∀ (i : Nat), w1.cell? ⟨w.heap.size, i, none⟩ = (#[.int .i64 kp, .int .i64 ki, .int .i64 sh, .int .i64 lo, .int .i64 hi, .int .i64 rate, .int .i64 ga, .int .i64 la, .int .i64 de] : Array Value)[i]? := Blk.cell C1.out
      have cC_1 : ∀ (o0 : Obj) (i : Nat), (w1.alloc o0).cell? ⟨w.heap.size, i, none⟩ = (#[.int .i64 kp, .int .i64 ki, .int .i64 sh, .int .i64 lo, .int .i64 hi, .int .i64 rate, .int .i64 ga, .int .i64 la, .int .i64 de] : Array Value)[i]? := fun _ => Blk.cell (Blk.alloc C1.out _)
      have hz := HC.out
      rw [hz]
      go_wp2
      go_ret2
      exact run_bad R.out (by first | decide | exact RN.out) B1.out
    · by_cases hl : dist.length = sets.length
      · have HL := hid hl
        obtain ⟨D, rfl⟩ := Int.eq_ofNat_of_zero_le (chkP_ok (chkC_ok hc).2.1).2.2.2.2.1
        go_enter Try.func53, Try.ntmps53
        go_wp2_with fail
        refine (rccheck_any _ _ _ _ _ _ _ _ _ _).mono ?_
        rintro e w1 ⟨rfl, hb⟩
        have C1 : Hid (Blk w1 (w.heap.size) 27 #[.int .i64 kp, .int .i64 ki, .int .i64 sh, .int .i64 lo, .int .i64 hi, .int .i64 rate, .int .i64 ga, .int .i64 la, .int .i64 ((D : Int))]) := hid (Blk.below (Blk.at_new _ (by simp)) hb (by simp <;> omega))
        have B1 : Hid (Below w.heap.size w w1) := hid (Below.trans ((Below.refl _ _).alloc (by simp <;> omega) _) (hb.mono (by simp <;> omega)))
        clear hb
        have cC_0 : ∀ (i : Nat), w1.cell? ⟨w.heap.size, i, none⟩ = (#[.int .i64 kp, .int .i64 ki, .int .i64 sh, .int .i64 lo, .int .i64 hi, .int .i64 rate, .int .i64 ga, .int .i64 la, .int .i64 ((D : Int))] : Array Value)[i]? := Blk.cell C1.out
        have cC_1 : ∀ (o0 : Obj) (i : Nat), (w1.alloc o0).cell? ⟨w.heap.size, i, none⟩ = (#[.int .i64 kp, .int .i64 ki, .int .i64 sh, .int .i64 lo, .int .i64 hi, .int .i64 rate, .int .i64 ga, .int .i64 la, .int .i64 ((D : Int))] : Array Value)[i]? := fun _ => Blk.cell (Blk.alloc C1.out _)
        have hz := HC.out
        rw [hz]
        go_wp2_with fail
        refine (begins_any _ _ _ _ _ _ _ _ _ _ _ _).mono ?_
        rintro e w2 ⟨rfl, hb⟩
        have C2 := hid (Blk.below C1.out hb (Blk.lt C1.out))
        have B2 : Hid (Below w.heap.size w w2) := hid (Below.trans B1.out (hb.mono (Nat.le_trans B1.out.size (by simp <;> omega))))
        clear hb
        clear cC_0 cC_1
        have cC_0 : ∀ (i : Nat), w2.cell? ⟨w.heap.size, i, none⟩ = (#[.int .i64 kp, .int .i64 ki, .int .i64 sh, .int .i64 lo, .int .i64 hi, .int .i64 rate, .int .i64 ga, .int .i64 la, .int .i64 ((D : Int))] : Array Value)[i]? := Blk.cell C2.out
        have cC_1 : ∀ (o0 : Obj) (i : Nat), (w2.alloc o0).cell? ⟨w.heap.size, i, none⟩ = (#[.int .i64 kp, .int .i64 ki, .int .i64 sh, .int .i64 lo, .int .i64 hi, .int .i64 rate, .int .i64 ga, .int .i64 la, .int .i64 ((D : Int))] : Array Value)[i]? := fun _ => Blk.cell (Blk.alloc C2.out _)
        have cC_2 : ∀ (o0 o1 : Obj) (i : Nat), ((w2.alloc o0).alloc o1).cell? ⟨w.heap.size, i, none⟩ = (#[.int .i64 kp, .int .i64 ki, .int .i64 sh, .int .i64 lo, .int .i64 hi, .int .i64 rate, .int .i64 ga, .int .i64 la, .int .i64 ((D : Int))] : Array Value)[i]? := fun _ _ => Blk.cell (Blk.alloc (Blk.alloc C2.out _) _)
        have hn2 : dist.length = sets.length := HL.out
        have ZL : Hid ((sets.zip dist).length = sets.length) := hid (by simp [hn2])
        go_wp2
        go_loopw [13, 14] (fun ok i wr => ∃ k : Nat, k ≤ sets.length ∧ ok = .bool (okB lo hi out v && ((sets.zip dist).take k).all okP) ∧ i = .int .i64 k ∧ wr = w2) (fun _ i _ => sets.length - (intOf i).toNat)
        case atStart => exact ⟨0, Nat.zero_le _, by simp, rfl, rfl⟩
        case round =>
          obtain ⟨k, hk, rfl, rfl, rfl⟩ := hrel
          by_cases hlt : k < sets.length
          · obtain ⟨p1, o1, rfl, hp1, _, hr1⟩ := Rds.plain R1.out (by omega) (by decide)
            obtain ⟨p2, o2, rfl, hp2, _, hr2⟩ := Rds.plain R2.out (by omega) (by decide)
            obtain ⟨x, hx⟩ : ∃ x, sets[k]? = some x := ⟨_, List.getElem?_eq_getElem hlt⟩
            obtain ⟨d, hd⟩ : ∃ d, dist[k]? = some d := ⟨_, List.getElem?_eq_getElem (by omega)⟩
            have e1 : wr.cell? ⟨p1, o1 + k, none⟩ = some (.int .i64 x) := by
              rw [← hr1 k (.int .i64 x) (by rw [ints_get, hx]; rfl)]; exact World.cell?_of_block (B2.out.block _ hp1)
            have e2 : wr.cell? ⟨p2, o2 + k, none⟩ = some (.int .i64 d) := by
              rw [← hr2 k (.int .i64 d) (by rw [ints_get, hd]; rfl)]; exact World.cell?_of_block (B2.out.block _ hp2)
            have AN : Hid ((okB lo hi out v && ((sets.zip dist).take (k + 1)).all okP) = ((okB lo hi out v && ((sets.zip dist).take k).all okP) && okP (x, d))) := hid (by rw [all_next (zip_at hx hd), Bool.and_assoc])
            clear hr1 hr2 hx hd
            cases hbv : (okB lo hi out v && ((sets.zip dist).take k).all okP)
            · have N1 : Hid ((okB lo hi out v && ((sets.zip dist).take (k + 1)).all okP) = false) := hid (by rw [AN.out, hbv]; rfl)
              go_wp2
              go_roundw
              case rel => exact ⟨k + 1, by omega, by rw [N1.out], by go_num, by trivial⟩
              case measure => simp [intOf]; omega
            · cases hs : absB x 16777216
              · have N1 : Hid ((okB lo hi out v && ((sets.zip dist).take (k + 1)).all okP) = false) := hid (by rw [AN.out, hbv]; simp [okP, hs])
                go_wp2_with (go_at_call 74; refine (rsignal_any _ _).mono ?_; rintro e v9 ⟨rfl, rfl⟩)
                go_roundw
                case rel => exact ⟨k + 1, by omega, by rw [N1.out], by go_num, by trivial⟩
                case measure => simp [intOf]; omega
              · by_cases hd1 : -65536 ≤ d
                · have N1 : Hid ((okB lo hi out v && ((sets.zip dist).take (k + 1)).all okP) = decide (d ≤ 65536)) := hid (by rw [AN.out, hbv]; rw [Bool.true_and]; show (absB x 16777216 && absB d 65536) = _; rw [hs]; simp [absB, hd1])
                  go_wp2_with (go_at_call 74; refine (rsignal_any _ _).mono ?_; rintro e v9 ⟨rfl, rfl⟩)
                  go_roundw
                  case rel => exact ⟨k + 1, by omega, by rw [N1.out], by go_num, by trivial⟩
                  case measure => simp [intOf]; omega
                · have N1 : Hid ((okB lo hi out v && ((sets.zip dist).take (k + 1)).all okP) = false) := hid (by rw [AN.out, hbv]; rw [Bool.true_and]; show (absB x 16777216 && absB d 65536) = _; rw [hs]; simp [absB]; omega)
                  go_wp2_with (go_at_call 74; refine (rsignal_any _ _).mono ?_; rintro e v9 ⟨rfl, rfl⟩)
                  go_roundw
                  case rel => exact ⟨k + 1, by omega, by rw [N1.out], by go_num, by trivial⟩
                  case measure => simp [intOf]; omega
          · obtain rfl : k = sets.length := by omega
            have TK : ((sets.zip dist).take sets.length) = sets.zip dist := List.take_of_length_le (by rw [ZL.out]; exact Nat.le_refl _)
            rw [TK]
            cases hal : (okB lo hi out v && (sets.zip dist).all okP)
            · have R : Hid (1 = runErr kp ki sh lo hi rate ga la (D : Int) out v sets dist) := hid (by unfold runErr; rw [if_neg (by rw [HC.out]; omega), if_neg h5, if_neg (by rw [HL.out]; omega), hal]; rfl)
              go_wp2
              go_ret2
              exact run_bad R.out (by decide) B2.out
            · obtain ⟨hbb, hal2⟩ := Bool.and_eq_true_iff.1 hal
              have HB := hid hbb
              have AL := hid hal2
              have R : Hid (runErr kp ki sh lo hi rate ga la (D : Int) out v sets dist = 0) := hid (by unfold runErr; rw [if_neg (by rw [HC.out]; omega), if_neg h5, if_neg (by rw [HL.out]; omega), hal]; rfl)
              have TK2 := hid TK
              have I0 := hid (inv0 (D := D) HB.out (show 0 ≤ la by have := chkP_ok (chkC_ok HC.out).2.1; omega))
              obtain ⟨hs, hi2⟩ := Bool.and_eq_true_iff.1 hbb
              have h1 := (chkC_ok HC.out).1
              have se : Ct.startErr kp ki sh lo hi rate out = 0 := by simp [Ct.startErr, h1, hi2]
              have ob := Ct.inB_true hi2
              have vb := absB_true hs
              have ck := Ct.chk_ok h1
              have ne : newErr ga la (D : Int) out v = 0 := by unfold newErr; rw [if_neg (by have := (chkC_ok HC.out).2.1; omega), absB_mk (n := out) (m := 16777216) (by omega) (by omega), absB_mk (n := v) (m := 268435456) (by omega) (by omega)]; rfl
              have SE := hid se
              have NE := hid ne
              clear TK hal2 hbb se ne hs hi2 h1
              go_wp2_with fail
              refine (Ct.rstart_any _ _ _ _ _ _ _ _).mono ?_
              rintro e w3 ⟨rfl, hb⟩
              unfold Ct.startRes
              rw [SE.out, if_pos rfl]
              have C3 := hid (C2.out.below hb C2.out.lt)
              have B3 := hid (B2.out.trans (hb.mono B2.out.size))
              clear hb
              have cC3 : ∀ (o : Obj) (i : Nat), (w3.alloc o).cell? ⟨w.heap.size, i, none⟩ = (#[.int .i64 kp, .int .i64 ki, .int .i64 sh, .int .i64 lo, .int .i64 hi, .int .i64 rate, .int .i64 ga, .int .i64 la, .int .i64 ((D : Int))] : Array Value)[i]? := fun o => (C3.out.alloc o).cell
              go_wp2_with fail
              refine (rsnew_any _ _ _ _ _ _ NE.out).mono ?_
              rintro e w4 ⟨rb, rlv, rfl, hr, hrg, hb⟩
              have hr2 : RSt w4 rb ga la (D : Int) v rlv ([] ++ (s0 out v D).xs) := by simpa [s0] using hr
              have R4 := hid hr2
              have S4 : Hid (Blk w4 w3.heap.size 127 #[.int .i64 out, .int .i64 0]) := hid (Blk.below (Blk.at_new _ rfl) hb (by simp))
              have C4 := hid (Blk.below (Blk.alloc C3.out _) hb (Blk.lt (Blk.alloc C3.out _)))
              have B4 := hid ((Below.alloc B3.out B3.out.size _).trans (hb.mono (Nat.le_trans B3.out.size (by simp))))
              have RG : Hid (∀ j, Fr rb rlv j → w3.heap.size < j) := hid (fun j hj => by have := hrg j hj; simp at this; omega)
              clear hr hr2 hrg hb cC3
              obtain ⟨S, hS⟩ : ∃ S, S = w3.heap.size := ⟨_, rfl⟩
              rw [← hS] at S4 RG ⊢
              have CS : Hid (w.heap.size < S) := hid (by rw [hS]; exact C3.out.lt)
              have S5 := hid S4.out.lt
              clear hS
              go_wp2
              go_loopw [2, 19, 20] (fun vv u i wz => ∃ (k : Nat) (rlv : Value) (pre : List Int), k ≤ sets.length ∧ i = .int .i64 k ∧ vv = .int .i64 (fin kp ki sh lo hi rate ga la (s0 out v D) ((sets.zip dist).take k)).v ∧ pre.length ≤ k ∧ RSt wz rb ga la (D : Int) (fin kp ki sh lo hi rate ga la (s0 out v D) ((sets.zip dist).take k)).v rlv (pre ++ (fin kp ki sh lo hi rate ga la (s0 out v D) ((sets.zip dist).take k)).xs) ∧ Blk wz S 127 #[.int .i64 (fin kp ki sh lo hi rate ga la (s0 out v D) ((sets.zip dist).take k)).out, .int .i64 (fin kp ki sh lo hi rate ga la (s0 out v D) ((sets.zip dist).take k)).last] ∧ Blk wz w.heap.size 27 #[.int .i64 kp, .int .i64 ki, .int .i64 sh, .int .i64 lo, .int .i64 hi, .int .i64 rate, .int .i64 ga, .int .i64 la, .int .i64 ((D : Int))] ∧ wz.ownsRow (S + 1) 94 3 u k (ints (sims kp ki sh lo hi rate ga la (s0 out v D) ((sets.zip dist).take k)).flatten) ∧ (∀ j, Fr rb rlv j → S < j) ∧ (∀ j, Fr rb rlv j → ¬ Rw u j) ∧ Below w.heap.size w wz) (fun _ _ i _ => sets.length - (intOf i).toNat)
              case atStart => exact ⟨0, _, [], Nat.zero_le _, rfl, rfl, by simp, R4.out, S4.out, C4.out, own_nil _ _ _ _, RG.out, (fun j _ h => by cases h), B4.out⟩
              case round =>
                obtain ⟨k, rlv, pre, hk, rfl, rfl, hpl, hR, hSb, hC, hown, hgt, hdis, hbel⟩ := hrel
                have RR := hid hR
                have SB := hid hSb
                have CB := hid hC
                have OW := hid hown
                have GT := hid hgt
                have DI := hid hdis
                have BB := hid hbel
                clear hR hbel hgt hdis
                by_cases hlt : k < sets.length
                · obtain ⟨p1, o1, rfl, hp1, _, hr1⟩ := Rds.plain R1.out (by omega) (by decide)
                  obtain ⟨p2, o2, rfl, hp2, _, hr2⟩ := Rds.plain R2.out (by omega) (by decide)
                  obtain ⟨x, hx⟩ : ∃ x, sets[k]? = some x := ⟨_, List.getElem?_eq_getElem hlt⟩
                  obtain ⟨d, hd⟩ : ∃ d, dist[k]? = some d := ⟨_, List.getElem?_eq_getElem (by omega)⟩
                  have E1 : Hid (∀ W : World, Below w.heap.size w W → W.cell? ⟨p1, o1 + k, none⟩ = some (.int .i64 x)) := hid (fun W hW => by
                    rw [← hr1 k (.int .i64 x) (by rw [ints_get, hx]; rfl)]; exact World.cell?_of_block (hW.block _ hp1))
                  have E2 : Hid (∀ W : World, Below w.heap.size w W → W.cell? ⟨p2, o2 + k, none⟩ = some (.int .i64 d)) := hid (fun W hW => by
                    rw [← hr2 k (.int .i64 d) (by rw [ints_get, hd]; rfl)]; exact World.cell?_of_block (hW.block _ hp2))
                  have e1 := E1.out _ BB.out
                  have ZA := hid (zip_at hx hd)
                  have okp : okP (x, d) = true := List.all_eq_true.1 AL.out _ (List.mem_of_getElem? ZA.out)
                  have okx : absB x 16777216 = true := (Bool.and_eq_true_iff.1 okp).1
                  have okd : absB d 65536 = true := (Bool.and_eq_true_iff.1 okp).2
                  obtain ⟨A, cp, rfl, _, _⟩ := own_form hown
                  have INV := hid (inv_fin HC.out ((sets.zip dist).take k) (s0 out v D) I0.out (fun p hp => List.all_eq_true.1 AL.out _ (List.mem_of_mem_take hp)))
                  have NF := fin_snoc (kp := kp) (ki := ki) (sh := sh) (lo := lo) (hi := hi) (rate := rate) (ga := ga) (la := la) (x, d) ((sets.zip dist).take k) (s0 out v D)
                  have NS := sims_snoc (kp := kp) (ki := ki) (sh := sh) (lo := lo) (hi := hi) (rate := rate) (ga := ga) (la := la) (x, d) ((sets.zip dist).take k) (s0 out v D)
                  rw [← take_next ZA.out] at NF NS
                  obtain ⟨q, hq⟩ : ∃ q, fin kp ki sh lo hi rate ga la (s0 out v D) ((sets.zip dist).take k) = q := ⟨_, rfl⟩
                  rw [hq] at RR SB INV NF NS hSb ⊢
                  obtain ⟨t, ht⟩ : ∃ t, nx kp ki sh lo hi rate ga la q x d = t := ⟨_, rfl⟩
                  rw [ht] at NF NS
                  have se := step_err HC.out INV.out okx
                  have sr := step_res (ga := ga) (la := la) (d := d) se
                  have tx := nx_parts (s := q) HC.out (x := x) (d := d) okd
                  rw [ht] at sr tx
                  have SR := hid sr
                  have TX := hid tx
                  have HNF := hid NF
                  have HNS := hid NS
                  have QL := hid INV.out.len
                  have QV := hid (INV.out.vb (chkC_ok HC.out).2.1)
                  have QO : Hid (OkL q.xs) := hid (fun n hn => by have := INV.out.xs n hn; omega)
                  clear NF NS ht hq se sr tx hown hr1 hr2 hx hd okp okd
                  have cC := hC.cell
                  have cS := hSb.cell
                  clear hC hSb
                  go_wp2_with fail
                  refine wp_region_held_drew (S := (fun w' => w'.cell? ⟨w.heap.size, 0, none⟩ = some (.int .i64 kp) ∧ w'.cell? ⟨w.heap.size, 1, none⟩ = some (.int .i64 ki) ∧ w'.cell? ⟨w.heap.size, 2, none⟩ = some (.int .i64 sh) ∧ w'.cell? ⟨w.heap.size, 3, none⟩ = some (.int .i64 lo) ∧ w'.cell? ⟨w.heap.size, 4, none⟩ = some (.int .i64 hi) ∧ w'.cell? ⟨w.heap.size, 5, none⟩ = some (.int .i64 rate) ∧ w'.cell? ⟨p1, o1 + k, none⟩ = some (.int .i64 x))) (by kernel_rfl) ⟨cC 0, cC 1, cC 2, cC 3, cC 4, cC 5, e1⟩ (fun hS => ?_)
                  refine take_at (i := 0) (v := ?_) rfl rfl (by kernel_rfl) (by kernel_rfl) (by kernel_rfl) (fun _ _ _ h => h) (Or.inl ⟨by rfl, ?_⟩) hS ?_
                  rotate_left
                  · intro w hSw; (try dsimp only at hSw); go_simp; try with_reducible rfl
                  try simp only [List.setIfInBounds_toArray, List.set_cons_zero, List.set_cons_succ]
                  refine take_at (i := 1) (v := ?_) rfl rfl (by kernel_rfl) (by kernel_rfl) (by kernel_rfl) (fun _ _ _ h => h) (Or.inl ⟨by rfl, ?_⟩) hS ?_
                  rotate_left
                  · intro w hSw; (try dsimp only at hSw); go_simp; try with_reducible rfl
                  try simp only [List.setIfInBounds_toArray, List.set_cons_zero, List.set_cons_succ]
                  refine take_at (i := 3) (v := ?_) rfl rfl (by kernel_rfl) (by kernel_rfl) (by kernel_rfl) (fun _ _ _ h => h) (Or.inl ⟨by rfl, ?_⟩) hS ?_
                  rotate_left
                  · intro w hSw; (try dsimp only at hSw); go_simp; try with_reducible rfl
                  try simp only [List.setIfInBounds_toArray, List.set_cons_zero, List.set_cons_succ]
                  refine take_at (i := 4) (v := ?_) rfl rfl (by kernel_rfl) (by kernel_rfl) (by kernel_rfl) (fun _ _ _ h => h) (Or.inl ⟨by rfl, ?_⟩) hS ?_
                  rotate_left
                  · intro w hSw; (try dsimp only at hSw); go_simp; try with_reducible rfl
                  try simp only [List.setIfInBounds_toArray, List.set_cons_zero, List.set_cons_succ]
                  refine take_at (i := 5) (v := ?_) rfl rfl (by kernel_rfl) (by kernel_rfl) (by kernel_rfl) (fun _ _ _ h => h) (Or.inl ⟨by rfl, ?_⟩) hS ?_
                  rotate_left
                  · intro w hSw; (try dsimp only at hSw); go_simp; try with_reducible rfl
                  try simp only [List.setIfInBounds_toArray, List.set_cons_zero, List.set_cons_succ]
                  refine take_at (i := 6) (v := ?_) rfl rfl (by kernel_rfl) (by kernel_rfl) (by kernel_rfl) (fun _ _ _ h => h) (Or.inl ⟨by rfl, ?_⟩) hS ?_
                  rotate_left
                  · intro w hSw; (try dsimp only at hSw); go_simp; try with_reducible rfl
                  try simp only [List.setIfInBounds_toArray, List.set_cons_zero, List.set_cons_succ]
                  refine take_at (i := 7) (v := ?_) rfl rfl (by kernel_rfl) (by kernel_rfl) (by kernel_rfl) (fun _ _ _ h => h) (Or.inl ⟨by rfl, ?_⟩) hS ?_
                  rotate_left
                  · intro w hSw; (try dsimp only at hSw); go_simp; try with_reducible rfl
                  try simp only [List.setIfInBounds_toArray, List.set_cons_zero, List.set_cons_succ]
                  refine wpAnyH_ready (rs := [2]) (by kernel_rfl) (by simp) ?_
                  refine AllReadyH.cons rfl (fun K hK => ?_) AllReadyH.nil
                  go_simp
                  refine hK.out _ _ hS (fun hS => ?_)
                  clear hK K
                  try simp only [Act.put, List.setIfInBounds_toArray, List.set_cons_zero, List.set_cons_succ]
                  refine wpAnyH_ready (rs := [8]) (by kernel_rfl) (by simp) ?_
                  refine AllReadyH.cons rfl (fun K hK => ?_) AllReadyH.nil
                  go_simp
                  refine (Ct.rstep_any _ _ _ _ _ _ _ _ _ _ _).mono ?_
                  rintro e w5 ⟨rfl, hb⟩
                  rw [SR.out]
                  have HB := hid ((Below.drew (Below.refl wr.heap.size wr)).trans hb)
                  have C5 := hid (CB.out.below HB.out CB.out.lt)
                  have SB5 := hid (SB.out.below HB.out SB.out.lt)
                  have RR5 := hid (RR.out.below HB.out)
                  have O5 := hid (own_keep OW.out (Chg.of_below (S := Nn) HB.out (fun k h1 h2 => by omega)) (fun _ _ => id))
                  have B5 := hid (BB.out.trans (HB.out.mono BB.out.size))
                  clear hS hb cC cS e1
                  refine hK.out _ _ ⟨C5.out.cell 0, C5.out.cell 1, C5.out.cell 2, C5.out.cell 3, C5.out.cell 4, C5.out.cell 5, (E1.out _ B5.out)⟩ (fun hS => ?_)
                  clear hK K
                  try simp only [Act.put, List.setIfInBounds_toArray, List.set_cons_zero, List.set_cons_succ]
                  refine take_at (i := 9) (v := ?_) rfl rfl (by kernel_rfl) (by kernel_rfl) (by kernel_rfl) (fun _ _ _ h => h) (Or.inl ⟨by rfl, ?_⟩) hS ?_
                  rotate_left
                  · intro w hSw; (try dsimp only at hSw); go_simp; try with_reducible rfl
                  try simp only [List.setIfInBounds_toArray, List.set_cons_zero, List.set_cons_succ]
                  refine take_at (i := 10) (v := ?_) rfl rfl (by kernel_rfl) (by kernel_rfl) (by kernel_rfl) (fun _ _ _ h => h) (Or.inl ⟨by rfl, ?_⟩) hS ?_
                  rotate_left
                  · intro w hSw; (try dsimp only at hSw); go_simp; try with_reducible rfl
                  try simp only [List.setIfInBounds_toArray, List.set_cons_zero, List.set_cons_succ]
                  refine take_at (i := 11) (v := ?_) rfl rfl (by kernel_rfl) (by kernel_rfl) (by kernel_rfl) (fun _ _ _ h => h) (Or.inl ⟨by rfl, ?_⟩) hS ?_
                  rotate_left
                  · intro w hSw; (try dsimp only at hSw); go_simp; try with_reducible rfl
                  try simp only [List.setIfInBounds_toArray, List.set_cons_zero, List.set_cons_succ]
                  have c5 := SB5.out.cell
                  have f5 := SB5.out.frozen
                  refine wpAnyH_ready (rs := [12]) (by kernel_rfl) (by simp) ?_
                  refine AllReadyH.cons rfl (fun K hK => ?_) AllReadyH.nil
                  go_simp
                  clear hS c5 f5
                  have S6 : Hid (Blk ((w5.setCell ⟨S, 0, none⟩ (.int .i64 t.out)).setCell ⟨S, 1, none⟩ (.int .i64 t.last)) S 127 #[.int .i64 t.out, .int .i64 t.last]) := hid ((SB5.out.set 0 _).set 1 _)
                  have SC := hid (((Chg.refl (fun k => k = S) w5).setCell (a := ⟨S, 0, none⟩) (.inl rfl) (.int .i64 t.out)).setCell (a := ⟨S, 1, none⟩) (.inl rfl) (.int .i64 t.last))
                  generalize (w5.setCell ⟨S, 0, none⟩ (.int .i64 t.out)).setCell ⟨S, 1, none⟩ (.int .i64 t.last) = w6 at S6 SC ⊢
                  have C6 := hid (C5.out.keep SC.out (fun e => by have := CS.out; omega))
                  have RR6 := hid (RR5.out.keep SC.out (fun j hj e => by have := GT.out j hj; omega))
                  have O6 := hid (own_keep O5.out SC.out (fun g hg e => by have := (own_blk O5.out g hg).1; omega))
                  have B6 := hid (SC.out.then_below B5.out (fun j hj e => by have := CS.out; omega) B5.out.size)
                  refine hK.out _ _ ⟨C6.out.cell 0, C6.out.cell 1, C6.out.cell 2, C6.out.cell 3, C6.out.cell 4, C6.out.cell 5, (E1.out _ B6.out)⟩ (fun hS => ?_)
                  clear hK K hS
                  try simp only [Act.put, List.setIfInBounds_toArray, List.set_cons_zero, List.set_cons_succ]
                  refine wpAnyH_done (by kernel_rfl) ?_ _

                  have c6 := S6.out.cell
                  have e2 := E2.out _ B6.out
                  go_wp2_with fail
                  go_region_held3 (fun w' => w'.cell? ⟨S, 0, none⟩ = some (.int .i64 t.out) ∧ w'.cell? ⟨p2, o2 + k, none⟩ = some (.int .i64 d)) (first | exact ⟨c6 0, e2⟩ | exact s7) (first
                    | (go_at_call 84; refine (rsstep_any t.out d _ QL.out RR6.out.drew (chkC_ok HC.out).2.1 (by omega) QO.out (by have := QV.out; omega)).mono ?_; rintro e w7 ⟨rlv2, pre2, rfl, hr7, hpl7, hc7, hn7⟩; rw [TX.out.1, TX.out.2.1, TX.out.2.2.2] at *; rw [TX.out.2.2.1] at hr7; have C7 := hid (((Chg.refl (Fr rb rlv) w6).drew).trans hc7 (fun _ _ h => h)); have R7 := hid hr7; have PL7 := hid hpl7; have NW7 : Hid (Newer w6 rlv rlv2) := hid hn7; have B7 := hid (C7.out.then_below B6.out (fun j hj hf => by have h1 := GT.out j hf; have h2 := CS.out; omega) B6.out.size); have S7 := hid (S6.out.keep C7.out (fun hf => by have := GT.out _ hf; omega)); have CC7 := hid (C6.out.keep C7.out (fun hf => by have h1 := GT.out _ hf; have h2 := CS.out; omega)); have O7 := hid (own_keep O6.out C7.out (fun g hg hf => DI.out g hf hg)); have s7 := And.intro (S7.out.cell 0) (E2.out _ B7.out); clear hr7 hpl7 hc7 hn7))
                  have D7 : Hid (∀ j, Fr rb rlv2 j → ¬ Rw (.slice A k cp) j) := hid (fun j hj hf => by
                    rcases hj with rfl | hj
                    · exact DI.out _ (.inl rfl) hf
                    · rcases NW7.out j hj with h | h
                      · exact DI.out j (.inr h) hf
                      · have := (own_blk O6.out j hf).2; omega)
                  have GT7 : Hid (∀ j, Fr rb rlv2 j → S < j) := hid (fun j hj => by
                    rcases hj with rfl | hj
                    · exact GT.out _ (.inl rfl)
                    · rcases NW7.out j hj with h | h
                      · exact GT.out j (.inr h)
                      · have := S6.out.lt; omega)
                  clear s7 c6 e2
                  have c7 := S7.out.cell
                  have e3 := E1.out _ B7.out
                  go_wp2_with fail
                  go_region_held3 (fun w' => w'.cell? ⟨p1, o1 + k, none⟩ = some (.int .i64 x) ∧ w'.cell? ⟨S, 0, none⟩ = some (.int .i64 t.out)) (first | exact ⟨e3, c7 0⟩ | exact ⟨E1.out _ (Below.alloc (Below.drew B7.out) B7.out.size _), (Blk.alloc (Blk.drew S7.out) _).cell 0⟩ | exact s8) (first
                    | (refine step_app (s := .tmp 112) (x := .tmp 121) infoS Try.underlying88 rfl (by omega) (by omega) (own_keep (own_base_le O7.out (Nat.zero_le _)) (((Chg.refl Nn w7).drew).alloc _) (fun _ _ => id)) (Rds.three _ _ _ _ _) (by intro u hu; simp at hu; rcases hu with rfl | rfl | rfl <;> rfl) (by omega) rfl rfl rfl rfl ?_; intro u8 w8 hown hchg hnew; have A7 := hid (Below.alloc (Below.drew B7.out) B7.out.size (.cells #[.int .i64 x, .int .i64 t.out, .int .i64 t.v] 94)); have NR : Hid (∀ g, Rw (.slice A k cp) g → S + 1 ≤ g) := hid (fun g hg => (own_blk O7.out g hg).1); have B8 := hid (hchg.then_below A7.out (fun j hj hf => by have h1 := NR.out j hf; have h2 := CS.out; omega) A7.out.size); have R8 := hid ((R7.out.drew.keep ((Chg.refl Nn _).alloc _) (fun _ _ => id)).keep hchg (fun j hj hf => D7.out j hj hf)); have S8 := hid ((Blk.alloc (Blk.drew S7.out) _).keep hchg (fun hf => by have := NR.out _ hf; omega)); have CC8 := hid ((Blk.alloc (Blk.drew CC7.out) _).keep hchg (fun hf => by have h1 := NR.out _ hf; have h2 := CS.out; omega)); have O8 := hid (own_rebase hown (base' := S + 1) (fun g hg => (hnew g hg).elim (fun h => NR.out g h) (fun h => by have h2 := S7.out.lt; simp at h; omega))); have D8 : Hid (∀ j, Fr rb rlv2 j → ¬ Rw u8 j) := hid (fun j hj hf => (hnew j hf).elim (fun h => D7.out j hj h) (fun h => by have h2 := R7.out.lt j hj; simp at h; omega)); have s8 := And.intro (E1.out _ B8.out) (S8.out.cell 0); clear hown hchg hnew))
                  go_wp2_with fail
                  go_roundw
                  case rel => exact ⟨k + 1, rlv2, pre2, by omega, by go_num, by rw [HNF.out], by have := PL7.out; omega, by rw [HNF.out]; exact R8.out, by rw [HNF.out]; exact S8.out, CC8.out, by rw [HNS.out, List.flatten_append, ints_append]; exact O8.out, GT7.out, D8.out, B8.out⟩
                  case measure => simp [intOf]; omega
                · obtain rfl : k = sets.length := by omega
                  go_wp2
                  go_ret2
                  have hown := OW.out
                  rw [TK2.out] at hown
                  exact run_good R.out ZL.out (own_base_le hown (by have := CS.out; omega)) BB.out
      · have R : Hid (3 = runErr kp ki sh lo hi rate ga la de out v sets dist) := hid (by simp [runErr, hc, h5, hl])
        have hl2 : ¬ sets.length = dist.length := fun h => hl h.symm
        go_enter Try.func53, Try.ntmps53
        go_wp2_with fail
        refine (rccheck_any _ _ _ _ _ _ _ _ _ _).mono ?_
        rintro e w1 ⟨rfl, hb⟩
        have C1 : Hid (Blk w1 (w.heap.size) 27 #[.int .i64 kp, .int .i64 ki, .int .i64 sh, .int .i64 lo, .int .i64 hi, .int .i64 rate, .int .i64 ga, .int .i64 la, .int .i64 de]) := hid (Blk.below (Blk.at_new _ (by simp)) hb (by simp <;> omega))
        have B1 : Hid (Below w.heap.size w w1) := hid (Below.trans ((Below.refl _ _).alloc (by simp <;> omega) _) (hb.mono (by simp <;> omega)))
        clear hb
        have cC_0 : ∀ (i : Nat), w1.cell? ⟨w.heap.size, i, none⟩ = (#[.int .i64 kp, .int .i64 ki, .int .i64 sh, .int .i64 lo, .int .i64 hi, .int .i64 rate, .int .i64 ga, .int .i64 la, .int .i64 de] : Array Value)[i]? := Blk.cell C1.out
        have cC_1 : ∀ (o0 : Obj) (i : Nat), (w1.alloc o0).cell? ⟨w.heap.size, i, none⟩ = (#[.int .i64 kp, .int .i64 ki, .int .i64 sh, .int .i64 lo, .int .i64 hi, .int .i64 rate, .int .i64 ga, .int .i64 la, .int .i64 de] : Array Value)[i]? := fun _ => Blk.cell (Blk.alloc C1.out _)
        have hz := HC.out
        rw [hz]
        go_wp2
        go_ret2
        exact run_bad R.out (by first | decide | exact RN.out) B1.out
  · have R : Hid (chkC kp ki sh lo hi rate ga la de = runErr kp ki sh lo hi rate ga la de out v sets dist) := hid (by simp [runErr, hc])
    have RN := hid hc
    go_enter Try.func53, Try.ntmps53
    go_wp2_with fail
    refine (rccheck_any _ _ _ _ _ _ _ _ _ _).mono ?_
    rintro e w1 ⟨rfl, hb⟩
    have C1 : Hid (Blk w1 (w.heap.size) 27 #[.int .i64 kp, .int .i64 ki, .int .i64 sh, .int .i64 lo, .int .i64 hi, .int .i64 rate, .int .i64 ga, .int .i64 la, .int .i64 de]) := hid (Blk.below (Blk.at_new _ (by simp)) hb (by simp <;> omega))
    have B1 : Hid (Below w.heap.size w w1) := hid (Below.trans ((Below.refl _ _).alloc (by simp <;> omega) _) (hb.mono (by simp <;> omega)))
    clear hb
    have cC_0 : ∀ (i : Nat), w1.cell? ⟨w.heap.size, i, none⟩ = (#[.int .i64 kp, .int .i64 ki, .int .i64 sh, .int .i64 lo, .int .i64 hi, .int .i64 rate, .int .i64 ga, .int .i64 la, .int .i64 de] : Array Value)[i]? := Blk.cell C1.out
    have cC_1 : ∀ (o0 : Obj) (i : Nat), (w1.alloc o0).cell? ⟨w.heap.size, i, none⟩ = (#[.int .i64 kp, .int .i64 ki, .int .i64 sh, .int .i64 lo, .int .i64 hi, .int .i64 rate, .int .i64 ga, .int .i64 la, .int .i64 de] : Array Value)[i]? := fun _ => Blk.cell (Blk.alloc C1.out _)
    have hz : (chkC kp ki sh lo hi rate ga la de != 0) = true := by simpa using hc
    go_wp2
    go_ret2
    exact run_bad R.out (by first | decide | exact RN.out) B1.out
end Go.Proofs.Ytddphdkhaaolmaa
