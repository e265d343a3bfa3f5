/- Controllers: what each function of the layer returns. -/
import Derived.Test.YtddphdkhaaolmaaProg
import Derived.Test.YtddphdkhaaolmaaApp
import Derived.Test.YtddphdkhaaolmaaSeq
import Derived.Deep.RegionHeld3
import Derived.Handy
namespace Go.Proofs.Ytddphdkhaaolmaa.Ct
open Go.RowKit

/-- Is a number in a range? -/
def inB (n lo hi : Int) : Bool := decide (n ≥ lo) && decide (n ≤ hi)
theorem inB_true {n lo hi : Int} (h : inB n lo hi = true) : lo ≤ n ∧ n ≤ hi := by simpa [inB] using h
theorem inB_false {n lo hi : Int} (h : inB n lo hi = false) : n < lo ∨ hi < n := by
  rcases Int.lt_or_le n lo with h1 | h1
  · exact .inl h1
  · rcases Int.lt_or_le hi n with h2 | h2
    · exact .inr h2
    · exfalso
      have : inB n lo hi = true := by simp [inB]; omega
      rw [this] at h; cases h
theorem inB_mk {n lo hi : Int} (h1 : lo ≤ n) (h2 : n ≤ hi) : inB n lo hi = true := by simp [inB]; omega
theorem in_any (n lo hi : Int) (w : World) : Calls Try.prog 87 #[.int .i64 n, .int .i64 lo, .int .i64 hi] w fun e w' => e = .returned (.bool (inB n lo hi)) ∧ w = w' := by
  have HI : Hid (∀ b, b = inB n lo hi → Ending.returned (.bool b) = .returned (.bool (inB n lo hi))) := hid (fun b h => by rw [h])
  by_cases h1 : lo ≤ n
  · have hb : decide (n ≤ hi) = inB n lo hi := by simp [inB, h1]
    have HB := hid hb
    clear hb
    go_enter Try.func87, Try.ntmps87
    go_wp2
    go_ret
    exact ⟨HI.out _ HB.out, rfl⟩
  · have hb : false = inB n lo hi := by simp [inB, h1]
    have HB := hid hb
    clear hb
    go_enter Try.func87, Try.ntmps87
    go_wp2
    go_ret
    exact ⟨HI.out _ HB.out, rfl⟩

/-- The error of Check. -/
def chk (kp ki sh lo hi rate : Int) : Int :=
  if (inB kp 0 65536 && inB ki 0 65536 && inB sh 0 20 && inB lo (-16777216) 16777216 && inB hi (-16777216) 16777216 && inB rate 1 16777216) = true then (if hi < lo then 9 else 0) else 1

set_option maxRecDepth 100000 in
set_option maxHeartbeats 1000000 in
theorem check_any (kp ki sh lo hi rate : Int) (w : World) :
    Calls Try.prog 63 #[.agg #[.int .i64 kp, .int .i64 ki, .int .i64 sh, .int .i64 lo, .int .i64 hi, .int .i64 rate]] w fun e w' => e = .returned (.int .i64 (chk kp ki sh lo hi rate)) ∧ Below w.heap.size w w' := by
  have fin1 : ∀ x, x = chk kp ki sh lo hi rate → ∀ w', Below w.heap.size w w' → Ending.returned (.int .i64 x) = .returned (.int .i64 (chk kp ki sh lo hi rate)) ∧ Below w.heap.size w w' := fun x h w' hb => ⟨by rw [h], hb⟩
  have F := hid fin1
  clear fin1
  cases h1 : inB kp 0 65536
  · have R : Hid (1 = chk kp ki sh lo hi rate) := hid (by simp [chk, h1])
    go_enter Try.func63, Try.ntmps63
    go_wp2_with (go_at_call 87; refine (in_any _ _ _ _).mono ?_; rintro e w' ⟨rfl, rfl⟩)
    go_ret
    exact F.out _ R.out _ ((Below.refl _ _).alloc (Nat.le_refl _) _)
  cases h2 : inB ki 0 65536
  · have R : Hid (1 = chk kp ki sh lo hi rate) := hid (by simp [chk, h1, h2])
    go_enter Try.func63, Try.ntmps63
    go_wp2_with (go_at_call 87; refine (in_any _ _ _ _).mono ?_; rintro e w' ⟨rfl, rfl⟩)
    go_ret
    exact F.out _ R.out _ ((Below.refl _ _).alloc (Nat.le_refl _) _)
  cases h3 : inB sh 0 20
  · have R : Hid (1 = chk kp ki sh lo hi rate) := hid (by simp [chk, h1, h2, h3])
    go_enter Try.func63, Try.ntmps63
    go_wp2_with (go_at_call 87; refine (in_any _ _ _ _).mono ?_; rintro e w' ⟨rfl, rfl⟩)
    go_ret
    exact F.out _ R.out _ ((Below.refl _ _).alloc (Nat.le_refl _) _)
  cases h4 : inB lo (-16777216) 16777216
  · have R : Hid (1 = chk kp ki sh lo hi rate) := hid (by simp [chk, h1, h2, h3, h4])
    go_enter Try.func63, Try.ntmps63
    go_wp2_with (go_at_call 87; refine (in_any _ _ _ _).mono ?_; rintro e w' ⟨rfl, rfl⟩)
    go_ret
    exact F.out _ R.out _ ((Below.refl _ _).alloc (Nat.le_refl _) _)
  cases h5 : inB hi (-16777216) 16777216
  · have R : Hid (1 = chk kp ki sh lo hi rate) := hid (by simp [chk, h1, h2, h3, h4, h5])
    go_enter Try.func63, Try.ntmps63
    go_wp2_with (go_at_call 87; refine (in_any _ _ _ _).mono ?_; rintro e w' ⟨rfl, rfl⟩)
    go_ret
    exact F.out _ R.out _ ((Below.refl _ _).alloc (Nat.le_refl _) _)
  cases h6 : inB rate 1 16777216
  · have R : Hid (1 = chk kp ki sh lo hi rate) := hid (by simp [chk, h1, h2, h3, h4, h5, h6])
    go_enter Try.func63, Try.ntmps63
    go_wp2_with (go_at_call 87; refine (in_any _ _ _ _).mono ?_; rintro e w' ⟨rfl, rfl⟩)
    go_ret
    exact F.out _ R.out _ ((Below.refl _ _).alloc (Nat.le_refl _) _)
  by_cases h7 : hi < lo
  · have R : Hid (9 = chk kp ki sh lo hi rate) := hid (by simp [chk, h1, h2, h3, h4, h5, h6, h7])
    go_enter Try.func63, Try.ntmps63
    go_wp2_with (go_at_call 87; refine (in_any _ _ _ _).mono ?_; rintro e w' ⟨rfl, rfl⟩)
    go_ret
    exact F.out _ R.out _ ((Below.refl _ _).alloc (Nat.le_refl _) _)
  · have R : Hid (0 = chk kp ki sh lo hi rate) := hid (by simp [chk, h1, h2, h3, h4, h5, h6, h7])
    go_enter Try.func63, Try.ntmps63
    go_wp2_with (go_at_call 87; refine (in_any _ _ _ _).mono ?_; rintro e w' ⟨rfl, rfl⟩)
    go_ret
    exact F.out _ R.out _ ((Below.refl _ _).alloc (Nat.le_refl _) _)

theorem limit_any (lo hi : Int) (w : World) : Calls Try.prog 103 #[.int .i64 lo, .int .i64 hi] w fun e w' =>
    ∃ p q : Nat, e = .returned (.func (.func 106) #[] #[.pointer (some ⟨p, 0, none⟩), .pointer (some ⟨q, 0, none⟩)]) ∧ Blk w' p 3 #[.int .i64 lo] ∧ Blk w' q 3 #[.int .i64 hi] ∧ Below w.heap.size w w' := by
  go_enter Try.func103, Try.ntmps103
  go_wp2
  go_ret
  exact ⟨w.heap.size, w.heap.size + 1, rfl, (Blk.new w _ _).alloc _, by simpa using Blk.new (w.alloc _) 3 #[.int .i64 hi], ((Below.refl _ _).alloc (Nat.le_refl _) _).alloc (by simp) _⟩

theorem ret_i {k : IntKind} {a b : Int} (h : a = b) : Ending.returned (.int k a) = .returned (.int k b) := by rw [h]
/-- The number of lo .. hi that is nearest to n. -/
def clampI (lo n hi : Int) : Int := max lo (min n hi)
theorem limited_any (n lo hi : Int) (p q : Nat) (w : World) (hp : Blk w p 3 #[.int .i64 lo]) (hq : Blk w q 3 #[.int .i64 hi]) :
    Calls Try.prog 106 #[.int .i64 n, .pointer (some ⟨p, 0, none⟩), .pointer (some ⟨q, 0, none⟩)] w fun e w' => e = .returned (.int .i64 (clampI lo n hi)) ∧ w = w' := by
  have c1 : w.cell? ⟨p, 0, none⟩ = some (.int .i64 lo) := hp.cell 0
  have c2 : w.cell? ⟨q, 0, none⟩ = some (.int .i64 hi) := hq.cell 0
  clear hp hq
  go_enter Try.func106, Try.ntmps106
  go_wp2
  all_goals go_ret
  all_goals exact ⟨ret_i (by unfold clampI; omega), rfl⟩

/-- What a step returns: the new output, the new last error, the error. -/
def stepErr (kp ki sh lo hi rate out last set value : Int) : Int :=
  if chk kp ki sh lo hi rate ≠ 0 then chk kp ki sh lo hi rate
  else if (inB out lo hi && inB last (-67108864) 67108864) = true then (if (inB set (-33554432) 33554432 && inB value (-33554432) 33554432) = true then 0 else 1) else 13
def chg (kp ki sh rate last err : Int) : Int := clampI (-rate) ((kp * (err - last) + ki * err) / 2 ^ sh.toNat) rate
def stepOut (kp ki sh lo hi rate out last set value : Int) : Int := clampI lo (out + chg kp ki sh rate last (set - value)) hi

theorem chk_ok {kp ki sh lo hi rate : Int} (h : chk kp ki sh lo hi rate = 0) : (0 ≤ kp ∧ kp ≤ 65536) ∧ (0 ≤ ki ∧ ki ≤ 65536) ∧ (0 ≤ sh ∧ sh ≤ 20) ∧ (-16777216 ≤ lo ∧ lo ≤ 16777216) ∧ (-16777216 ≤ hi ∧ hi ≤ 16777216) ∧ (1 ≤ rate ∧ rate ≤ 16777216) ∧ lo ≤ hi := by
  unfold chk at h
  split at h
  · rename_i hb
    simp only [Bool.and_eq_true] at hb
    obtain ⟨⟨⟨⟨⟨h1, h2⟩, h3⟩, h4⟩, h5⟩, h6⟩ := hb
    split at h
    · cases h
    · exact ⟨inB_true h1, inB_true h2, inB_true h3, inB_true h4, inB_true h5, inB_true h6, by omega⟩
  · cases h

theorem mul_bd {a b A B : Int} (h1 : 0 ≤ a) (h2 : a ≤ A) (h3 : -B ≤ b) (h4 : b ≤ B) : -(A * B) ≤ a * b ∧ a * b ≤ A * B := by
  have hB : 0 ≤ B := by omega
  have e1 : a * b ≤ a * B := Int.mul_le_mul_of_nonneg_left h4 h1
  have e2 : a * B ≤ A * B := Int.mul_le_mul_of_nonneg_right h2 hB
  have e3 : a * -B ≤ a * b := Int.mul_le_mul_of_nonneg_left h3 h1
  rw [Int.mul_neg] at e3
  omega

set_option maxRecDepth 100000 in
set_option maxHeartbeats 1000000 in
theorem step_ok (kp ki sh lo hi rate out last set value : Int) (w : World) (hc : chk kp ki sh lo hi rate = 0) (h1 : inB out lo hi = true) (h2 : inB last (-67108864) 67108864 = true) (h3 : inB set (-33554432) 33554432 = true) (h4 : inB value (-33554432) 33554432 = true) :
    Calls Try.prog 94 #[.agg #[.int .i64 kp, .int .i64 ki, .int .i64 sh, .int .i64 lo, .int .i64 hi, .int .i64 rate], .agg #[.int .i64 out, .int .i64 last], .int .i64 set, .int .i64 value] w fun e w' =>
      e = .returned (.tuple #[.agg #[.int .i64 (stepOut kp ki sh lo hi rate out last set value), .int .i64 (set - value)], .int .i64 0]) ∧ Below w.heap.size w w' := by
  obtain ⟨b1, b2, b3, b4, b5, b6, b7⟩ := chk_ok hc
  obtain ⟨b8, b9⟩ := inB_true h2
  obtain ⟨ba, bb⟩ := inB_true h3
  obtain ⟨bc, bd⟩ := inB_true h4
  obtain ⟨be, bf⟩ := inB_true h1
  have m1 := mul_bd b1.1 b1.2 (b := set - value - last) (B := 134217728) (by omega) (by omega)
  have m2 := mul_bd b2.1 b2.2 (b := set - value) (B := 67108864) (by omega) (by omega)
  go_enter Try.func94, Try.ntmps94
  go_wp2_with fail
  refine (check_any _ _ _ _ _ _ _).mono ?_
  rintro e w1 ⟨rfl, hb1⟩
  have G : Blk w1 w.heap.size 23 #[.int .i64 kp, .int .i64 ki, .int .i64 sh, .int .i64 lo, .int .i64 hi, .int .i64 rate] := Blk.below (((Blk.new w _ _).alloc _).alloc _) hb1 (by simp; omega)
  have C : Blk w1 (w.heap.size + 1) 127 #[.int .i64 out, .int .i64 last] := Blk.below (((by simpa using Blk.new (w.alloc _) 127 #[.int .i64 out, .int .i64 last]) : Blk ((w.alloc _).alloc _) (w.heap.size + 1) 127 #[.int .i64 out, .int .i64 last]).alloc _) hb1 (by simp)
  have R : Blk w1 (w.heap.size + 1 + 1) 127 #[.int .i64 0, .int .i64 0] := Blk.below (by simpa using Blk.new ((w.alloc _).alloc _) 127 #[.int .i64 0, .int .i64 0]) hb1 (by simp)
  have hB : Below w.heap.size w w1 := ((((Below.refl _ _).alloc (Nat.le_refl _) _).alloc (by simp) _).alloc (by simp; omega) _).trans (hb1.mono (by simp; omega))
  have g0 := G.cell
  have g1 := C.cell
  have g2 := R.cell
  have g3 := R.frozen
  have HB := hid hB
  have HG := hid G
  have HC := hid C
  have HR := hid R
  have wr : IntKind.i64.wrap (-rate) = -rate := IntWalk.i64_in _ (by omega)
  clear hb1 hB G C R
  go_wp2_with (go_at_call 87; refine (in_any _ _ _ _).mono ?_; rintro e w' ⟨rfl, rfl⟩)
  go_region_held3 (fun w' => ∀ i, w'.cell? ⟨w.heap.size, i, none⟩ = (#[.int .i64 kp, .int .i64 ki, .int .i64 sh, .int .i64 lo, .int .i64 hi, .int .i64 rate] : Array Value)[i]?) (first | exact g0 | exact k0 | exact j0) (first
    | (go_at_call_of 103 (rate); refine (limit_any _ _ _).mono ?_; rintro e w2 ⟨p1, q1, rfl, hp1, hq1, hb2⟩; have k0 := ((HG.out.drew).below hb2 (Blk.lt (HG.out.drew))).cell; have B2 := hid hb2; have P1 := hid hp1; have Q1 := hid hq1; clear hb2 hp1 hq1)
    | (go_at_call 103; refine (limit_any _ _ _).mono ?_; rintro e w3 ⟨p2, q2, rfl, hp2, hq2, hb3⟩; have j0 := (((HG.out.drew).below B2.out (Blk.lt (HG.out.drew))).below hb3 (Blk.lt ((HG.out.drew).below B2.out (Blk.lt (HG.out.drew))))).cell; have B3 := hid hb3; have P2 := hid hp2; have Q2 := hid hq2; clear hb3 hp2 hq2))
  have l1 := HG.out.lt
  have l2 := HC.out.lt
  have l3 := HR.out.lt
  have s2 := B2.out.size
  have s3 := B3.out.size
  have G3 := hid (((HG.out.drew).below B2.out l1).below B3.out (Nat.lt_of_lt_of_le l1 s2))
  have C3 := hid (((HC.out.drew).below B2.out l2).below B3.out (Nat.lt_of_lt_of_le l2 s2))
  have R3 := hid (((HR.out.drew).below B2.out l3).below B3.out (Nat.lt_of_lt_of_le l3 s2))
  have P3 := hid (P1.out.below B3.out P1.out.lt)
  have Q3 := hid (Q1.out.below B3.out Q1.out.lt)
  have HB3 := hid ((HB.out.drew.trans (B2.out.mono HB.out.size)).trans (B3.out.mono (Nat.le_trans HB.out.size s2)))
  have u0 := G3.out.cell
  have u1 := C3.out.cell
  have u2 := R3.out.cell
  have u3 := R3.out.frozen
  clear g0 g1 g2 g3 HG HC HR P1 Q1 B2 B3 l1 l2 l3 s2 s3 HB
  clear j0
  go_wp2
  have wr2 : IntKind.i64.wrap (out + chg kp ki sh rate last (set - value)) = out + chg kp ki sh rate last (set - value) := IntWalk.i64_in _ (by unfold chg clampI; omega)
  unfold chg at wr2
  go_region_held3 (fun w' => ∀ i, w'.cell? ⟨w.heap.size + 1, i, none⟩ = (#[.int .i64 out, .int .i64 last] : Array Value)[i]?) (first | exact u1 | exact ((C3.out.other (by simp) _).other (by simp) _).cell) (first
    | (go_at_call 106; refine (limited_any _ (-rate) rate _ _ _ ?_ ?_).mono ?_; exact P3.out.drew; exact Q3.out.drew; rintro e w4 ⟨rfl, rfl⟩)
    | (go_at_call 106; refine (limited_any _ lo hi _ _ _ ?_ ?_).mono ?_; exact P2.out.drew; exact Q2.out.drew; rintro e w4 ⟨rfl, rfl⟩))
  refine (‹∀ (a : Act) (w : World), Code.wp Try.prog Code.ret _ a w → _›) _ _ ?_
  go_wp2
  have e1 : clampI lo (out + clampI (-rate) ((kp * (set - value - last) + ki * (set - value)) / 2 ^ sh.toNat) rate) hi = stepOut kp ki sh lo hi rate out last set value := rfl
  rw [e1]
  have k0 := (R3.out.set 0 (.int .i64 (stepOut kp ki sh lo hi rate out last set value))).cell 0
  have k1 := ((R3.out.set 0 (.int .i64 (stepOut kp ki sh lo hi rate out last set value))).set 1 (.int .i64 (set - value))).cell 1
  simp at k0 k1
  refine bodyPost_ret (v := .tuple #[.agg #[.int .i64 (stepOut kp ki sh lo hi rate out last set value), .int .i64 (set - value)], .int .i64 0]) (by simp [results, Try.results94, go_sem, k0, k1]) rfl ?_
  exact ⟨rfl, (HB3.out.trans (((Below.refl _ _).setCell (by simp; omega) _).setCell (by simp; omega) _)).drew⟩
end Go.Proofs.Ytddphdkhaaolmaa.Ct
