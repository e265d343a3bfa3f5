/- Closed loops: Run. -/
import Derived.Test.YtddphdkhaaolmaaCCl2
namespace Go.Proofs.Ytddphdkhaaolmaa
open Go.RowKit

def fin (kp ki sh lo hi rate ga la : Int) : SS → List (Int × Int) → SS
  | s, [] => s
  | s, p :: l => fin kp ki sh lo hi rate ga la (nx kp ki sh lo hi rate ga la s p.1 p.2) l
def sims (kp ki sh lo hi rate ga la : Int) : SS → List (Int × Int) → List (List Int)
  | _, [] => []
  | s, p :: l => [p.1, (nx kp ki sh lo hi rate ga la s p.1 p.2).out, (nx kp ki sh lo hi rate ga la s p.1 p.2).v] :: sims kp ki sh lo hi rate ga la (nx kp ki sh lo hi rate ga la s p.1 p.2) l
def okP (p : Int × Int) : Bool := absB p.1 16777216 && absB p.2 65536
def s0 (out v : Int) (D : Nat) : SS := ⟨out, 0, v, List.replicate D out⟩
section
variable {kp ki sh lo hi rate ga la : Int} {D : Nat}
theorem fin_snoc (p : Int × Int) : ∀ (l : List (Int × Int)) (s : SS), fin kp ki sh lo hi rate ga la s (l ++ [p]) = nx kp ki sh lo hi rate ga la (fin kp ki sh lo hi rate ga la s l) p.1 p.2
  | [], _ => rfl
  | q :: l, s => by simp only [List.cons_append, fin]; exact fin_snoc p l _
theorem sims_snoc (p : Int × Int) : ∀ (l : List (Int × Int)) (s : SS), sims kp ki sh lo hi rate ga la s (l ++ [p]) = sims kp ki sh lo hi rate ga la s l ++ [[p.1, (nx kp ki sh lo hi rate ga la (fin kp ki sh lo hi rate ga la s l) p.1 p.2).out, (nx kp ki sh lo hi rate ga la (fin kp ki sh lo hi rate ga la s l) p.1 p.2).v]]
  | [], _ => rfl
  | q :: l, s => by simp only [List.cons_append, sims, fin]; rw [sims_snoc p l _]
theorem sims_len : ∀ (l : List (Int × Int)) (s : SS), (sims kp ki sh lo hi rate ga la s l).length = l.length
  | [], _ => rfl
  | q :: l, s => by simp only [sims, List.length_cons]; rw [sims_len l _]
theorem sims_three : ∀ (l : List (Int × Int)) (s : SS), ∀ r ∈ sims kp ki sh lo hi rate ga la s l, r.length = 3
  | [], _ => by simp [sims]
  | q :: l, s => by
    intro r hr
    rcases List.mem_cons.1 hr with rfl | hr
    · rfl
    · exact sims_three l _ r hr
theorem inv0 {out v : Int} (hb : okB lo hi out v = true) (hl : 0 ≤ la) : Inv lo hi la D (s0 out v D) := by
  obtain ⟨h1, h2⟩ := Bool.and_eq_true_iff.1 hb
  have h1 := absB_true h1
  have h2 := Ct.inB_true h2
  refine ⟨h2, by simp [s0], by simp only [s0]; omega, by simp [s0], fun n hn => ?_⟩
  have := (List.mem_replicate.1 hn).2
  omega
theorem inv_fin (hc : chkC kp ki sh lo hi rate ga la (D : Int) = 0) : ∀ (l : List (Int × Int)) (s : SS), Inv lo hi la D s → (∀ p ∈ l, okP p = true) → Inv lo hi la D (fin kp ki sh lo hi rate ga la s l)
  | [], _, h, _ => h
  | p :: l, s, h, hl => by
    have hp := hl p (by simp)
    obtain ⟨h1, h2⟩ := Bool.and_eq_true_iff.1 hp
    have h2 := absB_true h2
    exact inv_fin hc l _ (h.next hc h1 h2) (fun q hq => hl q (by simp [hq]))
end
theorem take_next {l : List (Int × Int)} {k : Nat} {p : Int × Int} (h : l[k]? = some p) : l.take (k + 1) = l.take k ++ [p] := by
  rw [List.take_add_one, h]; rfl
theorem zip_at {a b : List Int} {k : Nat} {x y : Int} (h1 : a[k]? = some x) (h2 : b[k]? = some y) : (a.zip b)[k]? = some (x, y) := by
  rw [List.getElem?_zip_eq_some]; exact ⟨h1, h2⟩
theorem all_next {l : List (Int × Int)} {k : Nat} {p : Int × Int} (h : l[k]? = some p) : (l.take (k + 1)).all okP = ((l.take k).all okP && okP p) := by
  rw [take_next h, List.all_append]; simp
theorem Rds.three (w : World) (x y z : Value) (t : TypeId) : Rds Nn (w.alloc (.cells #[x, y, z] t)) 3 (some ⟨w.heap.size, 0, none⟩) 1 [x, y, z] := by
  refine ⟨rfl, fun _ => ⟨_, rfl, by simp, id, fun j u hu => ?_⟩⟩
  match j, hu with
  | 0, hu => simp at hu; subst hu; rw [add_at, (Blk.new w t #[x, y, z]).cell]; rfl
  | 1, hu => simp at hu; subst hu; rw [add_at, (Blk.new w t #[x, y, z]).cell]; rfl
  | 2, hu => simp at hu; subst hu; rw [add_at, (Blk.new w t #[x, y, z]).cell]; rfl
  | j + 3, hu => simp at hu
theorem infoS : (Try.prog.info? 94).map (fun i => (i.zero, i.size, i.bytes)) = some (some (.agg #[.int .i64 0, .int .i64 0, .int .i64 0]), 3, 24) := by kernel_rfl
/-- The error of Run. -/
def runErr (kp ki sh lo hi rate ga la de out v : Int) (sets dist : List Int) : Int :=
  if chkC kp ki sh lo hi rate ga la de ≠ 0 then chkC kp ki sh lo hi rate ga la de else if 512 < sets.length then 8 else if dist.length ≠ sets.length then 3 else if (okB lo hi out v && (sets.zip dist).all okP) = true then 0 else 1
def runRows (kp ki sh lo hi rate ga la de out v : Int) (sets dist : List Int) : List (List Int) :=
  if runErr kp ki sh lo hi rate ga la de out v sets dist = 0 then sims kp ki sh lo hi rate ga la (s0 out v de.toNat) (sets.zip dist) else []
/-- A row of samples, in new memory. -/
def NewRows (w w' : World) (v : Value) (rows : List (List Int)) : Prop := w'.ownsRow w.heap.size 94 3 v rows.length (ints rows.flatten) ∧ Below w.heap.size w w'
def RunPost (kp ki sh lo hi rate ga la de out v : Int) (sets dist : List Int) (w : World) : Ending → World → Prop := fun e w' => ∃ u, e = .returned (.tuple #[u, .int .i64 (runErr kp ki sh lo hi rate ga la de out v sets dist)]) ∧ NewRows w w' u (runRows kp ki sh lo hi rate ga la de out v sets dist)
theorem run_good {kp ki sh lo hi rate ga la out v : Int} {D n : Nat} {sets dist : List Int} {w w' : World} {u : Value} (h : runErr kp ki sh lo hi rate ga la (D : Int) out v sets dist = 0) (hl : (sets.zip dist).length = n) (ho : w'.ownsRow w.heap.size 94 3 u n (ints (sims kp ki sh lo hi rate ga la (s0 out v D) (sets.zip dist)).flatten)) (hb : Below w.heap.size w w') : RunPost kp ki sh lo hi rate ga la (D : Int) out v sets dist w (.returned (.tuple #[u, .int .i64 0])) w' := by
  refine ⟨u, by rw [h], ?_, hb⟩
  unfold runRows
  rw [if_pos h, Int.toNat_natCast, sims_len, hl]
  exact ho
theorem run_bad {kp ki sh lo hi rate ga la de out v x : Int} {sets dist : List Int} {w w' : World} (h : x = runErr kp ki sh lo hi rate ga la de out v sets dist) (hx : x ≠ 0) (hb : Below w.heap.size w w') : RunPost kp ki sh lo hi rate ga la de out v sets dist w (.returned (.tuple #[.slice none 0 0, .int .i64 x])) w' := by
  subst h
  refine ⟨_, rfl, ?_, hb⟩
  unfold runRows
  rw [if_neg hx]
  exact own_nil _ _ _ _
set_option maxRecDepth 100000 in
set_option maxHeartbeats 8000000 in
theorem run_any (kp ki sh lo hi rate ga la de : Int) (out v : Int) (a1 a2 : Option Addr) (c1 c2 : Nat) (sets dist : List Int) (w : World) (r1 : Rds Nn w 1 a1 sets.length (ints sets)) (r2 : Rds Nn w 1 a2 dist.length (ints dist)) (n1 : sets.length ≤ 1000000) : Calls Try.prog 45 #[.agg #[.int .i64 kp, .int .i64 ki, .int .i64 sh, .int .i64 lo, .int .i64 hi, .int .i64 rate, .int .i64 ga, .int .i64 la, .int .i64 de], .int .i64 out, .int .i64 v, .slice a1 sets.length c1, .slice a2 dist.length c2] w (RunPost kp ki sh lo hi rate ga la de out v sets dist w) := by
  have R1 := hid r1
  have R2 := hid r2
  clear r1 r2
  by_cases hc : chkC kp ki sh lo hi rate ga la de = 0
  · have HC := hid hc
    by_cases h5 : 512 < sets.length
    · have R : Hid (8 = runErr kp ki sh lo hi rate ga la de out v sets dist) := hid (by simp [runErr, hc, h5])
      go_enter Try.func45, Try.ntmps45
      go_wp2_with fail
      refine (ccheck_any _ _ _ _ _ _ _ _ _ _).mono ?_
      rintro e w1 ⟨rfl, hb⟩
      have C1 : Hid (Blk w1 (w.heap.size) 27 #[.int .i64 kp, .int .i64 ki, .int .i64 sh, .int .i64 lo, .int .i64 hi, .int .i64 rate, .int .i64 ga, .int .i64 la, .int .i64 de]) := hid (Blk.below (Blk.at_new _ (by simp)) hb (by simp <;> omega))
      have B1 : Hid (Below w.heap.size w w1) := hid (Below.trans ((Below.refl _ _).alloc (by simp <;> omega) _) (hb.mono (by simp <;> omega)))
      clear hb
      have cC_0 : ∀ (i : Nat), w1.cell? ⟨w.heap.size, i, none⟩ = (#[.int .i64 kp, .int .i64 ki, .int .i64 sh, .int .i64 lo, .int .i64 hi, .int .i64 rate, .int .i64 ga, .int .i64 la, .int .i64 de] : Array Value)[i]? := Blk.cell C1.out
      have cC_1 : ∀ (o0 : Obj) (i : Nat), (w1.alloc o0).cell? ⟨w.heap.size, i, none⟩ = (#[.int .i64 kp, .int .i64 ki, .int .i64 sh, .int .i64 lo, .int .i64 hi, .int .i64 rate, .int .i64 ga, .int .i64 la, .int .i64 de] : Array Value)[i]? := fun _ => Blk.cell (Blk.alloc C1.out _)
      have hz := HC.out
      rw [hz]
      go_wp2
      go_ret2
      exact run_bad R.out (by first | decide | exact RN.out) B1.out
    · by_cases hl : dist.length = sets.length
      · have HL := hid hl
        obtain ⟨D, rfl⟩ := Int.eq_ofNat_of_zero_le (chkP_ok (chkC_ok hc).2.1).2.2.2.2.1
        cases hb : okB lo hi out v
        · have HB := hid hb
          have R : Hid (1 = runErr kp ki sh lo hi rate ga la (D : Int) out v sets dist) := hid (by simp [runErr, hc, h5, hl, hb])
          go_enter Try.func45, Try.ntmps45
          go_wp2_with fail
          refine (ccheck_any _ _ _ _ _ _ _ _ _ _).mono ?_
          rintro e w1 ⟨rfl, hb⟩
          have C1 : Hid (Blk w1 (w.heap.size) 27 #[.int .i64 kp, .int .i64 ki, .int .i64 sh, .int .i64 lo, .int .i64 hi, .int .i64 rate, .int .i64 ga, .int .i64 la, .int .i64 ((D : Int))]) := hid (Blk.below (Blk.at_new _ (by simp)) hb (by simp <;> omega))
          have B1 : Hid (Below w.heap.size w w1) := hid (Below.trans ((Below.refl _ _).alloc (by simp <;> omega) _) (hb.mono (by simp <;> omega)))
          clear hb
          have cC_0 : ∀ (i : Nat), w1.cell? ⟨w.heap.size, i, none⟩ = (#[.int .i64 kp, .int .i64 ki, .int .i64 sh, .int .i64 lo, .int .i64 hi, .int .i64 rate, .int .i64 ga, .int .i64 la, .int .i64 ((D : Int))] : Array Value)[i]? := Blk.cell C1.out
          have cC_1 : ∀ (o0 : Obj) (i : Nat), (w1.alloc o0).cell? ⟨w.heap.size, i, none⟩ = (#[.int .i64 kp, .int .i64 ki, .int .i64 sh, .int .i64 lo, .int .i64 hi, .int .i64 rate, .int .i64 ga, .int .i64 la, .int .i64 ((D : Int))] : Array Value)[i]? := fun _ => Blk.cell (Blk.alloc C1.out _)
          have hz := HC.out
          rw [hz]
          go_wp2_with fail
          refine (begin_bad _ _ _ _ _ _ _ _ _ _ _ _ HC.out HB.out).mono ?_
          rintro e w2 ⟨rfl, hb⟩
          have C2 := hid (Blk.below C1.out hb (Blk.lt C1.out))
          have B2 : Hid (Below w.heap.size w w2) := hid (Below.trans B1.out (hb.mono (Nat.le_trans B1.out.size (by simp <;> omega))))
          clear hb
          clear cC_0 cC_1
          go_wp2
          go_loopw [14, 40] (fun ok i wr => ∃ k : Nat, k ≤ sets.length ∧ ok = .bool false ∧ i = .int .i64 k ∧ Below w.heap.size w wr) (fun _ i _ => sets.length - (intOf i).toNat)
          case atStart => exact ⟨0, Nat.zero_le _, rfl, rfl, B2.out⟩
          case round =>
            obtain ⟨k, hk, rfl, rfl, hbel⟩ := hrel
            have BB := hid hbel
            clear hbel
            by_cases hlt : k < sets.length
            · go_wp2
              go_roundw
              case rel => exact ⟨k + 1, by omega, rfl, by go_num, BB.out⟩
              case measure => simp [intOf]; omega
            · obtain rfl : k = sets.length := by omega
              go_wp2
              go_ret2
              exact run_bad R.out (by decide) BB.out
        · have HB := hid hb
          go_enter Try.func45, Try.ntmps45
          go_wp2_with fail
          refine (ccheck_any _ _ _ _ _ _ _ _ _ _).mono ?_
          rintro e w1 ⟨rfl, hb⟩
          have C1 : Hid (Blk w1 (w.heap.size) 27 #[.int .i64 kp, .int .i64 ki, .int .i64 sh, .int .i64 lo, .int .i64 hi, .int .i64 rate, .int .i64 ga, .int .i64 la, .int .i64 ((D : Int))]) := hid (Blk.below (Blk.at_new _ (by simp)) hb (by simp <;> omega))
          have B1 : Hid (Below w.heap.size w w1) := hid (Below.trans ((Below.refl _ _).alloc (by simp <;> omega) _) (hb.mono (by simp <;> omega)))
          clear hb
          have cC_0 : ∀ (i : Nat), w1.cell? ⟨w.heap.size, i, none⟩ = (#[.int .i64 kp, .int .i64 ki, .int .i64 sh, .int .i64 lo, .int .i64 hi, .int .i64 rate, .int .i64 ga, .int .i64 la, .int .i64 ((D : Int))] : Array Value)[i]? := Blk.cell C1.out
          have cC_1 : ∀ (o0 : Obj) (i : Nat), (w1.alloc o0).cell? ⟨w.heap.size, i, none⟩ = (#[.int .i64 kp, .int .i64 ki, .int .i64 sh, .int .i64 lo, .int .i64 hi, .int .i64 rate, .int .i64 ga, .int .i64 la, .int .i64 ((D : Int))] : Array Value)[i]? := fun _ => Blk.cell (Blk.alloc C1.out _)
          have hz := HC.out
          rw [hz]
          go_wp2_with fail
          refine (begin_ok _ _ _ _ _ _ _ _ _ _ _ _ HC.out HB.out).mono ?_
          rintro e w2 ⟨L, b, lb, lv, rfl, hp, hpg, hb⟩
          have C2 := hid (Blk.below C1.out hb (Blk.lt C1.out))
          have B2 : Hid (Below w.heap.size w w2) := hid (Below.trans B1.out (hb.mono (Nat.le_trans B1.out.size (by simp <;> omega))))
          clear hb
          clear cC_0 cC_1
          have hn2 : dist.length = sets.length := HL.out
          have P0 : Hid (LSt w2 L b lb lv kp ki sh lo hi rate ga la D (s0 out v D)) := hid hp
          have PG := hid hpg
          clear hp hpg hb
          have ZL : Hid ((sets.zip dist).length = sets.length) := hid (by simp [hn2])
          go_wp2
          go_loopw [14, 40] (fun ok i wr => ∃ k : Nat, k ≤ sets.length ∧ ok = .bool (((sets.zip dist).take k).all okP) ∧ i = .int .i64 k ∧ wr = w2) (fun _ i _ => sets.length - (intOf i).toNat)
          case atStart => exact ⟨0, Nat.zero_le _, rfl, rfl, rfl⟩
          case round =>
            obtain ⟨k, hk, rfl, rfl, rfl⟩ := hrel
            by_cases hlt : k < sets.length
            · obtain ⟨p1, o1, rfl, hp1, _, hr1⟩ := Rds.plain R1.out (by omega) (by decide)
              obtain ⟨p2, o2, rfl, hp2, _, hr2⟩ := Rds.plain R2.out (by omega) (by decide)
              obtain ⟨x, hx⟩ : ∃ x, sets[k]? = some x := ⟨_, List.getElem?_eq_getElem hlt⟩
              obtain ⟨d, hd⟩ : ∃ d, dist[k]? = some d := ⟨_, List.getElem?_eq_getElem (by omega)⟩
              have e1 : wr.cell? ⟨p1, o1 + k, none⟩ = some (.int .i64 x) := by
                rw [← hr1 k (.int .i64 x) (by rw [ints_get, hx]; rfl)]; exact World.cell?_of_block (B2.out.block _ hp1)
              have e2 : wr.cell? ⟨p2, o2 + k, none⟩ = some (.int .i64 d) := by
                rw [← hr2 k (.int .i64 d) (by rw [ints_get, hd]; rfl)]; exact World.cell?_of_block (B2.out.block _ hp2)
              have AN := hid (all_next (zip_at hx hd))
              clear hr1 hr2 hx hd
              cases hbv : ((sets.zip dist).take k).all okP
              · have N1 : Hid (((sets.zip dist).take (k + 1)).all okP = false) := hid (by rw [AN.out, hbv]; rfl)
                go_wp2
                go_roundw
                case rel => exact ⟨k + 1, by omega, by rw [N1.out], by go_num, by trivial⟩
                case measure => simp [intOf]; omega
              · cases hs : absB x 16777216
                · have N1 : Hid (((sets.zip dist).take (k + 1)).all okP = false) := hid (by rw [AN.out, hbv]; simp [okP, hs])
                  go_wp2_with (go_at_call 66; refine (signal_any _ _).mono ?_; rintro e v9 ⟨rfl, rfl⟩)
                  go_roundw
                  case rel => exact ⟨k + 1, by omega, by rw [N1.out], by go_num, by trivial⟩
                  case measure => simp [intOf]; omega
                · by_cases hd1 : -65536 ≤ d
                  · have N1 : Hid (((sets.zip dist).take (k + 1)).all okP = decide (d ≤ 65536)) := hid (by rw [AN.out, hbv]; rw [Bool.true_and]; show (absB x 16777216 && absB d 65536) = _; rw [hs]; simp [absB, hd1])
                    go_wp2_with (go_at_call 66; refine (signal_any _ _).mono ?_; rintro e v9 ⟨rfl, rfl⟩)
                    go_roundw
                    case rel => exact ⟨k + 1, by omega, by rw [N1.out], by go_num, by trivial⟩
                    case measure => simp [intOf]; omega
                  · have N1 : Hid (((sets.zip dist).take (k + 1)).all okP = false) := hid (by rw [AN.out, hbv]; rw [Bool.true_and]; show (absB x 16777216 && absB d 65536) = _; rw [hs]; simp [absB]; omega)
                    go_wp2_with (go_at_call 66; refine (signal_any _ _).mono ?_; rintro e v9 ⟨rfl, rfl⟩)
                    go_roundw
                    case rel => exact ⟨k + 1, by omega, by rw [N1.out], by go_num, by trivial⟩
                    case measure => simp [intOf]; omega
            · obtain rfl : k = sets.length := by omega
              have TK : ((sets.zip dist).take sets.length) = sets.zip dist := List.take_of_length_le (by rw [ZL.out]; exact Nat.le_refl _)
              rw [TK]
              cases hal : (sets.zip dist).all okP
              · have R : Hid (1 = runErr kp ki sh lo hi rate ga la (D : Int) out v sets dist) := hid (by simp [runErr, HC.out, h5, HL.out, hal])
                go_wp2
                go_ret2
                exact run_bad R.out (by decide) B2.out
              · have AL := hid hal
                have R : Hid (runErr kp ki sh lo hi rate ga la (D : Int) out v sets dist = 0) := hid (by simp [runErr, HC.out, h5, HL.out, hal, HB.out])
                obtain ⟨N0, hN0⟩ : ∃ N0, N0 = wr.heap.size := ⟨_, rfl⟩
                have FB : Hid (∀ j, Fl L b lb lv j → j < N0) := hid (fun j hj => by rw [hN0]; exact P0.out.lt j hj)
                have BN : Hid (w.heap.size ≤ N0) := hid (by rw [hN0]; exact B2.out.size)
                have FW : Hid (∀ j, j < w.heap.size → ¬ Fl L b lb lv j) := hid (fun j hj hf => by have h1 := PG.out j hf; have h2 := B1.out.size; omega)
                have TK2 := hid TK
                have I0 := hid (inv0 (D := D) HB.out (show 0 ≤ la by have := chkP_ok (chkC_ok HC.out).2.1; omega))
                clear TK
                go_wp2
                go_loopw [16, 70] (fun u i wz => ∃ k : Nat, k ≤ sets.length ∧ i = .int .i64 k ∧ LSt wz L b lb lv kp ki sh lo hi rate ga la D (fin kp ki sh lo hi rate ga la (s0 out v D) ((sets.zip dist).take k)) ∧ wz.ownsRow N0 94 3 u k (ints (sims kp ki sh lo hi rate ga la (s0 out v D) ((sets.zip dist).take k)).flatten) ∧ Below w.heap.size w wz ∧ N0 ≤ wz.heap.size) (fun _ i _ => sets.length - (intOf i).toNat)
                case atStart => exact ⟨0, Nat.zero_le _, rfl, P0.out, own_nil _ _ _ _, B2.out, Nat.le_of_eq hN0⟩
                case round =>
                  obtain ⟨k, hk, rfl, hL, hown, hbel, hsz⟩ := hrel
                  have LL := hid hL
                  have OW := hid hown
                  have BB := hid hbel
                  have SZ := hid hsz
                  clear hL hbel hsz
                  by_cases hlt : k < sets.length
                  · obtain ⟨p1, o1, rfl, hp1, _, hr1⟩ := Rds.plain R1.out (by omega) (by decide)
                    obtain ⟨p2, o2, rfl, hp2, _, hr2⟩ := Rds.plain R2.out (by omega) (by decide)
                    obtain ⟨x, hx⟩ : ∃ x, sets[k]? = some x := ⟨_, List.getElem?_eq_getElem hlt⟩
                    obtain ⟨d, hd⟩ : ∃ d, dist[k]? = some d := ⟨_, List.getElem?_eq_getElem (by omega)⟩
                    have E1 : Hid (∀ W : World, Below w.heap.size w W → W.cell? ⟨p1, o1 + k, none⟩ = some (.int .i64 x)) := hid (fun W hW => by
                      rw [← hr1 k (.int .i64 x) (by rw [ints_get, hx]; rfl)]; exact World.cell?_of_block (hW.block _ hp1))
                    have E2 : Hid (∀ W : World, Below w.heap.size w W → W.cell? ⟨p2, o2 + k, none⟩ = some (.int .i64 d)) := hid (fun W hW => by
                      rw [← hr2 k (.int .i64 d) (by rw [ints_get, hd]; rfl)]; exact World.cell?_of_block (hW.block _ hp2))
                    have e1 := E1.out _ BB.out
                    have e2 := E2.out _ BB.out
                    have ZA := hid (zip_at hx hd)
                    have okp : okP (x, d) = true := List.all_eq_true.1 AL.out _ (List.mem_of_getElem? ZA.out)
                    have okx := (Bool.and_eq_true_iff.1 okp).1
                    have okd := absB_true (Bool.and_eq_true_iff.1 okp).2
                    obtain ⟨A, cp, rfl, _, _⟩ := own_form hown
                    clear hown hr1 hr2 hx hd hp1 hp2
                    have INV := hid (inv_fin HC.out ((sets.zip dist).take k) (s0 out v D) I0.out (fun p hp => List.all_eq_true.1 AL.out _ (List.mem_of_mem_take hp)))
                    obtain ⟨t, ht⟩ : ∃ t, nx kp ki sh lo hi rate ga la (fin kp ki sh lo hi rate ga la (s0 out v D) ((sets.zip dist).take k)) x d = t := ⟨_, rfl⟩
                    have NF := fin_snoc (kp := kp) (ki := ki) (sh := sh) (lo := lo) (hi := hi) (rate := rate) (ga := ga) (la := la) (x, d) ((sets.zip dist).take k) (s0 out v D)
                    have NS := sims_snoc (kp := kp) (ki := ki) (sh := sh) (lo := lo) (hi := hi) (rate := rate) (ga := ga) (la := la) (x, d) ((sets.zip dist).take k) (s0 out v D)
                    rw [← take_next ZA.out, ht] at NF NS
                    have HT := hid ht
                    have HNF := hid NF
                    have HNS := hid NS
                    clear NF NS ht
                    go_wp2_with fail
                    go_region_held3 (fun w' => w'.cell? ⟨p1, o1 + k, none⟩ = some (.int .i64 x) ∧ w'.cell? ⟨p2, o2 + k, none⟩ = some (.int .i64 d)) (first | exact ⟨e1, e2⟩ | exact s5 | exact ⟨E1.out _ (Below.alloc B5.out B5.out.size _), E2.out _ (Below.alloc B5.out B5.out.size _)⟩ | exact s6) (first
                      | (go_at_call 69; refine (next_any x d _ LL.out.drew HC.out INV.out okx okd).mono ?_; rintro e w5 ⟨rfl, hp5, hc5⟩; rw [HT.out] at hp5 ⊢; have C5 := hid (((Chg.refl (Fl L b lb lv) wr).drew).trans hc5 (fun _ _ h => h)); have P5 := hid hp5; have B5 := hid (C5.out.then_below BB.out FW.out BB.out.size); have O5 := hid (own_keep OW.out C5.out (fun g hg hf => by have h1 := (own_blk OW.out g hg).1; have h2 := FB.out g hf; omega)); have Z5 : Hid (N0 ≤ w5.heap.size) := hid (Nat.le_trans SZ.out C5.out.size); have s5 := And.intro (E1.out _ B5.out) (E2.out _ B5.out); clear hp5 hc5)
                      | (refine step_app (s := .tmp 73) (x := .tmp 84) infoS Try.underlying88 rfl (by omega) (by omega) (own_keep (own_base_le O5.out (Nat.zero_le _)) ((Chg.refl Nn _).alloc _) (fun _ _ => id)) (Rds.three _ _ _ _ _) (by intro u hu; simp at hu; rcases hu with rfl | rfl | rfl <;> rfl) (by omega) rfl rfl rfl rfl ?_; intro u6 w6 hown hchg hnew; have A5 := hid (Below.alloc B5.out B5.out.size (.cells #[.int .i64 x, .int .i64 t.out, .int .i64 t.v] 94)); have NR : ∀ g, Rw (.slice A k cp) g → N0 ≤ g := fun g hg => (own_blk O5.out g hg).1; have B6 := hid (hchg.then_below A5.out (fun j hj hf => by have h1 := NR j hf; have h2 := BN.out; omega) A5.out.size); have P6 := hid ((P5.out.keep ((Chg.refl Nn _).alloc _) (fun _ _ => id)).keep hchg (fun j hj hf => by have h1 := NR j hf; have h2 := FB.out j hj; omega)); have O6 := hid (own_rebase hown (base' := N0) (fun g hg => (hnew g hg).elim (fun h => NR g h) (fun h => by have h2 := Z5.out; simp at h; omega))); have Z6 : Hid (N0 ≤ w6.heap.size) := hid (Nat.le_trans Z5.out (Nat.le_trans (by simp) hchg.size)); have s6 := And.intro (E1.out _ B6.out) (E2.out _ B6.out); clear hown hchg hnew))
                    go_wp2_with fail
                    go_roundw
                    case rel => exact ⟨k + 1, by omega, by go_num, by rw [HNF.out]; exact P6.out, by rw [HNS.out, List.flatten_append, ints_append]; exact O6.out, B6.out, Z6.out⟩
                    case measure => simp [intOf]; omega
                  · obtain rfl : k = sets.length := by omega
                    go_wp2
                    go_ret2
                    have hown := OW.out
                    rw [TK2.out] at hown
                    exact run_good R.out ZL.out (own_base_le hown BN.out) BB.out
      · have R : Hid (3 = runErr kp ki sh lo hi rate ga la de out v sets dist) := hid (by simp [runErr, hc, h5, hl])
        go_enter Try.func45, Try.ntmps45
        go_wp2_with fail
        refine (ccheck_any _ _ _ _ _ _ _ _ _ _).mono ?_
        rintro e w1 ⟨rfl, hb⟩
        have C1 : Hid (Blk w1 (w.heap.size) 27 #[.int .i64 kp, .int .i64 ki, .int .i64 sh, .int .i64 lo, .int .i64 hi, .int .i64 rate, .int .i64 ga, .int .i64 la, .int .i64 de]) := hid (Blk.below (Blk.at_new _ (by simp)) hb (by simp <;> omega))
        have B1 : Hid (Below w.heap.size w w1) := hid (Below.trans ((Below.refl _ _).alloc (by simp <;> omega) _) (hb.mono (by simp <;> omega)))
        clear hb
        have cC_0 : ∀ (i : Nat), w1.cell? ⟨w.heap.size, i, none⟩ = (#[.int .i64 kp, .int .i64 ki, .int .i64 sh, .int .i64 lo, .int .i64 hi, .int .i64 rate, .int .i64 ga, .int .i64 la, .int .i64 de] : Array Value)[i]? := Blk.cell C1.out
        have cC_1 : ∀ (o0 : Obj) (i : Nat), (w1.alloc o0).cell? ⟨w.heap.size, i, none⟩ = (#[.int .i64 kp, .int .i64 ki, .int .i64 sh, .int .i64 lo, .int .i64 hi, .int .i64 rate, .int .i64 ga, .int .i64 la, .int .i64 de] : Array Value)[i]? := fun _ => Blk.cell (Blk.alloc C1.out _)
        have hz := HC.out
        rw [hz]
        go_wp2
        go_ret2
        exact run_bad R.out (by first | decide | exact RN.out) B1.out
  · have R : Hid (chkC kp ki sh lo hi rate ga la de = runErr kp ki sh lo hi rate ga la de out v sets dist) := hid (by simp [runErr, hc])
    have RN := hid hc
    go_enter Try.func45, Try.ntmps45
    go_wp2_with fail
    refine (ccheck_any _ _ _ _ _ _ _ _ _ _).mono ?_
    rintro e w1 ⟨rfl, hb⟩
    have C1 : Hid (Blk w1 (w.heap.size) 27 #[.int .i64 kp, .int .i64 ki, .int .i64 sh, .int .i64 lo, .int .i64 hi, .int .i64 rate, .int .i64 ga, .int .i64 la, .int .i64 de]) := hid (Blk.below (Blk.at_new _ (by simp)) hb (by simp <;> omega))
    have B1 : Hid (Below w.heap.size w w1) := hid (Below.trans ((Below.refl _ _).alloc (by simp <;> omega) _) (hb.mono (by simp <;> omega)))
    clear hb
    have cC_0 : ∀ (i : Nat), w1.cell? ⟨w.heap.size, i, none⟩ = (#[.int .i64 kp, .int .i64 ki, .int .i64 sh, .int .i64 lo, .int .i64 hi, .int .i64 rate, .int .i64 ga, .int .i64 la, .int .i64 de] : Array Value)[i]? := Blk.cell C1.out
    have cC_1 : ∀ (o0 : Obj) (i : Nat), (w1.alloc o0).cell? ⟨w.heap.size, i, none⟩ = (#[.int .i64 kp, .int .i64 ki, .int .i64 sh, .int .i64 lo, .int .i64 hi, .int .i64 rate, .int .i64 ga, .int .i64 la, .int .i64 de] : Array Value)[i]? := fun _ => Blk.cell (Blk.alloc C1.out _)
    have hz : (chkC kp ki sh lo hi rate ga la de != 0) = true := by simpa using hc
    go_wp2
    go_ret2
    exact run_bad R.out (by first | decide | exact RN.out) B1.out
end Go.Proofs.Ytddphdkhaaolmaa
