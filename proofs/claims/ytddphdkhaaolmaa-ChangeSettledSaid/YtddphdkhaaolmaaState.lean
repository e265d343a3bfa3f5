/- Processes with their states. -/
import Derived.Test.YtddphdkhaaolmaaTgt
import Derived.Test.YtddphdkhaaolmaaLine
namespace Go.Proofs.Ytddphdkhaaolmaa
open Go.RowKit

/-- At block b lies a process with the value v, whose line (at block lb) keeps xs. -/
structure PSt (w : World) (b : Nat) (ga la de v : Int) (lb : Nat) (lv : Value) (xs : List Int) : Prop where
  blk : Blk w b 149 #[.int .i64 ga, .int .i64 la, .int .i64 de, .int .i64 v, .pointer (some ⟨lb, 0, none⟩)]
  ln : Ln 154 w lb lv xs
  ap : ¬ Ft lb lv b
def Fs (b lb : Nat) (lv : Value) : Nat → Prop := fun k => k = b ∨ Ft lb lv k
theorem PSt.lt {w : World} {b lb : Nat} {ga la de v : Int} {lv : Value} {xs : List Int} (h : PSt w b ga la de v lb lv xs) : ∀ k, Fs b lb lv k → k < w.heap.size := by
  intro k hk
  rcases hk with rfl | hk
  · exact h.blk.lt
  · exact h.ln.lt k hk
theorem PSt.keep {w w' : World} {b lb : Nat} {ga la de v : Int} {lv : Value} {xs : List Int} {S : Nat → Prop} (h : PSt w b ga la de v lb lv xs) (hc : Chg S w w') (hn : ∀ k, Fs b lb lv k → ¬ S k) : PSt w' b ga la de v lb lv xs :=
  ⟨h.blk.keep hc (hn b (.inl rfl)), h.ln.keep hc (fun k hk => hn k (.inr hk)), h.ap⟩
theorem PSt.below {w w' : World} {b lb : Nat} {ga la de v : Int} {lv : Value} {xs : List Int} (h : PSt w b ga la de v lb lv xs) (hc : Below w.heap.size w w') : PSt w' b ga la de v lb lv xs :=
  h.keep (Chg.of_below (S := Nn) hc (fun k h1 h2 => by omega)) (fun _ _ => id)

def newErr (ga la de n v : Int) : Int := if chkP ga la de ≠ 0 then chkP ga la de else if (absB n 16777216 && absB v 268435456) = true then 0 else 1

theorem new_bad (ga la de n v : Int) (w : World) (h : newErr ga la de n v ≠ 0) : Calls Try.prog 93 #[.agg #[.int .i64 ga, .int .i64 la, .int .i64 de], .int .i64 n, .int .i64 v] w fun e w' => e = .returned (.tuple #[.pointer none, .int .i64 (newErr ga la de n v)]) ∧ Below w.heap.size w w' := by
  by_cases hc : chkP ga la de = 0
  · cases h1 : absB n 16777216
    · have R : Hid (1 = newErr ga la de n v) := hid (by simp [newErr, hc, h1])
      clear h
      go_enter Try.func93, Try.ntmps93
      go_wp2_with fail
      refine (check_any _ _ _ _).mono ?_
      rintro e w1 ⟨rfl, hb⟩
      have G1 : Hid (Blk w1 w.heap.size 25 #[.int .i64 ga, .int .i64 la, .int .i64 de]) := hid (Blk.below (Blk.at_new _ (by simp)) hb (by simp))
      have B1 : Hid (Below w.heap.size w w1) := hid (Below.trans (Below.alloc (Below.refl _ _) (by simp) _) (hb.mono (by simp)))
      have cg := G1.out.cell
      clear hb
      go_wp2_with (go_at_call 88; refine (within_any _ _ _ (by omega)).mono ?_; rintro e w2 ⟨rfl, rfl⟩)
      go_ret2
      exact ⟨congrArg (fun x => Ending.returned (.tuple #[.pointer none, .int .i64 x])) R.out, B1.out⟩
    · cases h2 : absB v 268435456
      · have R : Hid (1 = newErr ga la de n v) := hid (by simp [newErr, hc, h1, h2])
        clear h
        go_enter Try.func93, Try.ntmps93
        go_wp2_with fail
        refine (check_any _ _ _ _).mono ?_
        rintro e w1 ⟨rfl, hb⟩
        have G1 : Hid (Blk w1 w.heap.size 25 #[.int .i64 ga, .int .i64 la, .int .i64 de]) := hid (Blk.below (Blk.at_new _ (by simp)) hb (by simp))
        have B1 : Hid (Below w.heap.size w w1) := hid (Below.trans (Below.alloc (Below.refl _ _) (by simp) _) (hb.mono (by simp)))
        have cg := G1.out.cell
        clear hb
        go_wp2_with (go_at_call 88; refine (within_any _ _ _ (by omega)).mono ?_; rintro e w2 ⟨rfl, rfl⟩)
        go_ret2
        exact ⟨congrArg (fun x => Ending.returned (.tuple #[.pointer none, .int .i64 x])) R.out, B1.out⟩
      · exact absurd (by simp [newErr, hc, h1, h2]) h
  · have R : Hid (1 = newErr ga la de n v) := hid (by have := chkP_ne hc; simp [newErr, this])
    have hc1 := chkP_ne hc
    clear h
    go_enter Try.func93, Try.ntmps93
    go_wp2_with fail
    refine (check_any _ _ _ _).mono ?_
    rintro e w1 ⟨rfl, hb⟩
    have G1 : Hid (Blk w1 w.heap.size 25 #[.int .i64 ga, .int .i64 la, .int .i64 de]) := hid (Blk.below (Blk.at_new _ (by simp)) hb (by simp))
    have B1 : Hid (Below w.heap.size w w1) := hid (Below.trans (Below.alloc (Below.refl _ _) (by simp) _) (hb.mono (by simp)))
    have cg := G1.out.cell
    clear hb
    go_wp2
    go_ret2
    exact ⟨congrArg (fun x => Ending.returned (.tuple #[.pointer none, .int .i64 x])) R.out, B1.out⟩


theorem new_ok {ga la de n v : Int} (h : newErr ga la de n v = 0) : chkP ga la de = 0 ∧ absB n 16777216 = true ∧ absB v 268435456 = true := by
  unfold newErr at h
  split at h
  · rename_i hq; exact absurd h hq
  · rename_i hq
    split at h
    · rename_i hb
      simp only [Bool.and_eq_true] at hb
      exact ⟨by simpa using hq, hb⟩
    · cases h
set_option maxRecDepth 100000 in
set_option maxHeartbeats 1000000 in
theorem pnew_any (ga la de n v : Int) (w : World) (h : newErr ga la de n v = 0) : Calls Try.prog 93 #[.agg #[.int .i64 ga, .int .i64 la, .int .i64 de], .int .i64 n, .int .i64 v] w fun e w' => ∃ b lb lv, e = .returned (.tuple #[.pointer (some ⟨b, 0, none⟩), .int .i64 0]) ∧ PSt w' b ga la de v lb lv (List.replicate de.toNat n) ∧ (∀ k, Fs b lb lv k → w.heap.size ≤ k) ∧ Below w.heap.size w w' := by
  obtain ⟨hc, h1, h2⟩ := new_ok h
  obtain ⟨b1, b2, b3, b4, b5, b6⟩ := chkP_ok hc
  clear h
  go_enter Try.func93, Try.ntmps93
  go_wp2_with fail
  refine (check_any _ _ _ _).mono ?_
  rintro e w1 ⟨rfl, hb⟩
  have G1 : Hid (Blk w1 w.heap.size 25 #[.int .i64 ga, .int .i64 la, .int .i64 de]) := hid (Blk.below (Blk.at_new _ (by simp)) hb (by simp))
  have B1 : Hid (Below w.heap.size w w1) := hid (Below.trans (Below.alloc (Below.refl _ _) (by simp) _) (hb.mono (by simp)))
  have cg := G1.out.cell
  clear hb
  go_wp2_with (go_at_call 88; refine (within_any _ _ _ (by omega)).mono ?_; rintro e w2 ⟨rfl, rfl⟩)
  refine (new_any _ _ _ ⟨b5, b6⟩).mono ?_
  rintro e w3 ⟨lb, lv, rfl, hL, hge, hb⟩
  have HL := hid hL
  have HG := hid hge
  have G3 := hid (Blk.below G1.out hb G1.out.lt)
  have B3 : Hid (Below w.heap.size w w3) := hid (B1.out.trans (hb.mono B1.out.size))
  have s1 := hid hb.size
  clear hb hL hge cg
  have cg := G3.out.cell
  go_wp2
  go_ret2
  refine ⟨w3.heap.size, lb, lv, rfl, ⟨Blk.at_new _ rfl, HL.out.keep ((Chg.refl Nn _).alloc _) (fun _ _ => id), fun hk => Nat.lt_irrefl _ (HL.out.lt _ hk)⟩, ?_, Below.alloc B3.out B3.out.size _⟩
  intro k hk
  rcases hk with rfl | hk
  · exact B3.out.size
  · exact Nat.le_trans B1.out.size (Nat.le_trans (by simp) (HG.out k hk))

/-! ### Step -/
def pErr (o d : Int) : Int := if (absB o 16777216 && absB d 65536) = true then 0 else 1
def pV (ga la v : Int) (xs : List Int) (o d : Int) : Int := if pErr o d = 0 then v + ((tgt ga (outOf xs o) - v) / la + d) else v
def pXs (xs : List Int) (o d : Int) : List Int := if pErr o d = 0 then pushOf xs o else xs
def pR (ga la v : Int) (xs : List Int) (o d : Int) : Int := if pErr o d = 0 then pV ga la v xs o d else 0
/-- What a line of a process keeps. -/
def OkL (xs : List Int) : Prop := ∀ n ∈ xs, -16777216 ≤ n ∧ n ≤ 16777216
theorem quo_bnd (a b : Int) : -(a.natAbs : Int) ≤ a / b ∧ a / b ≤ (a.natAbs : Int) := by
  have := Int.natAbs_ediv_le_natAbs a b
  omega
theorem okl_out {xs : List Int} {o : Int} (h : OkL xs) (h1 : absB o 16777216 = true) : -16777216 ≤ outOf xs o ∧ outOf xs o ≤ 16777216 := by
  have := absB_true h1
  rcases xs with _ | ⟨x, xs⟩
  · simpa [outOf] using this
  · simpa [outOf] using h x (by simp)

theorem pstep_nil (o d : Int) (w : World) : Calls Try.prog 96 #[.pointer none, .int .i64 o, .int .i64 d] w fun e w' => e = .returned (.tuple #[.int .i64 0, .int .i64 14]) ∧ w = w' := by
  go_enter Try.func96, Try.ntmps96
  go_wp2
  go_ret2
  exact ⟨rfl, rfl⟩
theorem pval_nil (w : World) : Calls Try.prog 95 #[.pointer none] w fun e w' => e = .returned (.int .i64 0) ∧ w = w' := by
  go_enter Try.func95, Try.ntmps95
  go_wp2
  go_ret
  exact ⟨rfl, rfl⟩
theorem pval_any {b lb : Nat} {ga la de v : Int} {lv : Value} {xs : List Int} (w : World) (h : PSt w b ga la de v lb lv xs) : Calls Try.prog 95 #[.pointer (some ⟨b, 0, none⟩)] w fun e w' => e = .returned (.int .i64 v) ∧ w = w' := by
  have c := h.blk.cell
  clear h
  go_enter Try.func95, Try.ntmps95
  go_wp2
  go_ret
  exact ⟨rfl, rfl⟩
theorem pstep_bad {b : Nat} (o d : Int) (w : World) (h : pErr o d = 1) : Calls Try.prog 96 #[.pointer (some ⟨b, 0, none⟩), .int .i64 o, .int .i64 d] w fun e w' => e = .returned (.tuple #[.int .i64 0, .int .i64 1]) ∧ w = w' := by
  cases h1 : absB o 16777216
  · clear h
    go_enter Try.func96, Try.ntmps96
    go_wp2_with (go_at_call 88; refine (within_any _ _ _ (by omega)).mono ?_; rintro e w2 ⟨rfl, rfl⟩)
    go_ret2
    exact ⟨rfl, rfl⟩
  · cases h2 : absB d 65536
    · clear h
      go_enter Try.func96, Try.ntmps96
      go_wp2_with (go_at_call 88; refine (within_any _ _ _ (by omega)).mono ?_; rintro e w2 ⟨rfl, rfl⟩)
      go_ret2
      exact ⟨rfl, rfl⟩
    · exact absurd h (by simp [pErr, h1, h2])
end Go.Proofs.Ytddphdkhaaolmaa
