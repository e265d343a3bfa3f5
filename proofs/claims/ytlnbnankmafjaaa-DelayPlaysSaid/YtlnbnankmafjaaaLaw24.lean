/- The statements on delay lines: what their helpers return. -/
import Derived.Test.YtlnbnankmafjaaaRDelay
import Derived.Deep.RegionWith
import Derived.Handy
namespace Go.Proofs.Ytlnbnankmafjaaa
open Go.RowKit

def outs (xs l : List Int) : List Int := (xs ++ l).take l.length
def rest (xs l : List Int) : List Int := (xs ++ l).drop l.length
theorem rest_nil (xs : List Int) : rest xs [] = xs := by simp [rest]
theorem outs_nil (xs : List Int) : outs xs [] = [] := by simp [outs]
theorem rest_len (xs l : List Int) : (rest xs l).length = xs.length := by simp [rest]
theorem outs_len (xs l : List Int) : (outs xs l).length = l.length := by simp [outs]
theorem rest_snoc (xs l : List Int) (x : Int) : rest xs (l ++ [x]) = pushOf (rest xs l) x := by
  simp only [rest, pushOf, List.length_append, List.length_cons, List.length_nil, Nat.zero_add]
  rw [← List.drop_one, ← List.append_assoc, ← List.drop_drop, List.drop_append_of_le_length (l₁ := xs ++ l) (by simp)]
theorem outs_snoc (xs l : List Int) (x : Int) : outs xs (l ++ [x]) = outs xs l ++ [outOf (rest xs l) x] := by
  simp only [outs, outOf, rest, List.length_append, List.length_cons, List.length_nil, Nat.zero_add]
  rw [← List.append_assoc, ← List.drop_append_of_le_length (l₁ := xs ++ l) (l₂ := [x]) (by simp)]
  have hlt : l.length < (xs ++ l ++ [x]).length := by simp; omega
  rw [List.take_succ_eq_append_getElem hlt, List.take_append_of_le_length (by simp), List.drop_eq_getElem_cons hlt]
  rfl

theorem pw_below_drewN {B : Nat} {w W : World} (h : Below B w W) (n : Nat) : Below B w (W.drewN n) := ⟨h.os, h.tape, h.output, h.size, h.block⟩
theorem below_drewN_le {B : Nat} {w : World} (n : Nat) (_h : B ≤ w.heap.size) : Below B w (w.drewN n) := pw_below_drewN (Below.refl _ _) n
theorem pushed_step {T : TypeId} {w wr w1 w2 : World} {b : Nat} {v vo v2 : Value} {xs l : List Int} {x : Int} {k : Nat} {o : Obj} (h : Ln T w b v xs) (hc : Chg (Ft b v) w wr) (hg : ∀ g, vo.ownBlock = some g → w.heap.size ≤ g) (hs : Step T wr w1 b v v (pushOf (rest xs l) x))
    (ho : w2.ownsRow 0 3 1 v2 (k + 1) (ints (outs xs l) ++ [.int .i64 (outOf (rest xs l) x)])) (hc2 : Chg (Rw vo) (w1.alloc o) w2) (hn : Newer (w1.alloc o) vo v2) :
    w2.ownsRow 0 3 1 v2 (k + 1) (ints (outs xs (l ++ [x]))) ∧ (∀ g, v2.ownBlock = some g → w.heap.size ≤ g) ∧ Ln T w2 b v (rest xs (l ++ [x])) ∧ Chg (Ft b v) w w2 := by
  have h1 := hc.size
  have h2 := hs.2.1.size
  have hw1 := hc.trans hs.2.1 (fun _ _ => id)
  refine ⟨by rw [outs_snoc]; simpa [ints] using ho, fun g hv => ?_, ?_, ?_⟩
  · rcases hn g hv with h | h
    · exact hg g h
    · simp at h; omega
  · rw [rest_snoc]
    exact (hs.1.keep ((Chg.refl Nn _).alloc o) (fun _ _ => id)).keep hc2 (fun q hq e => by have := hg q e; have := h.lt q hq; omega)
  · exact (hw1.alloc o).trans hc2 (fun q hq e => by have := hg q e; omega)

set_option maxHeartbeats 400000 in
theorem pushed_any (b : Nat) (v : Value) (A : Option Addr) (c : Nat) (xs l : List Int) (w : World) (h : Ln 50 w b v xs) (hr : Rds (Ft b v) w 1 A l.length (ints l)) (hl : xs.length ≤ 1000000) (hn : l.length ≤ 1000000) :
    Calls Try.prog 11 #[.pointer (some ⟨b, 0, none⟩), .slice A l.length c] w fun e w' => ∃ vo, e = .returned (.tuple #[vo, .bool true]) ∧ w'.ownsRow 0 3 1 vo l.length (ints (outs xs l)) ∧ (∀ g, vo.ownBlock = some g → w.heap.size ≤ g) ∧ Step 50 w w' b v v (rest xs l) := by
  have HL := hid h
  have HR := hid hr
  clear h hr
  go_enter Try.func11, Try.ntmps11
  go_wp2
  go_loopw [6, 7] (fun vo i wr => ∃ k : Nat, k ≤ l.length ∧ i = .int .i64 k ∧ wr.ownsRow 0 3 1 vo k (ints (outs xs (l.take k))) ∧ (∀ g, vo.ownBlock = some g → w.heap.size ≤ g) ∧ Ln 50 wr b v (rest xs (l.take k)) ∧ Chg (Ft b v) w wr) (fun _ i _ => l.length - (intOf i).toNat)
  case atStart => exact ⟨0, Nat.zero_le _, rfl, by simpa [outs_nil, ints] using own_nil w 0 3 1, (fun g hg => by cases hg), by simpa [rest_nil] using HL.out, Chg.refl _ _⟩
  case round =>
    obtain ⟨k, hk, rfl, hown, hge, hL, hchg⟩ := hrel
    obtain ⟨Ao, co, rfl, _, _⟩ := own_form hown
    have HO := hid hown
    have HG := hid hge
    have HN := hid hL
    have HC := hid hchg
    clear hown hge hL hchg
    by_cases hlt : k < l.length
    · obtain ⟨ad, u, rfl, hu, c1⟩ := (HR.out.keep HC.out).at_ hlt
      rw [ints_get, List.getElem?_eq_getElem hlt] at hu
      simp only [Option.map_some, Option.some.injEq] at hu
      subst hu
      have htk : l.take (k + 1) = l.take k ++ [l[k]] := List.take_succ_eq_append_getElem hlt
      obtain ⟨x, hx⟩ : ∃ x, l[k] = x := ⟨_, rfl⟩
      rw [hx] at c1 htk
      have HT := hid htk
      clear hx htk
      go_wp2_with fail
      refine (push_any b v _ x _ HN.out (by rw [rest_len]; exact hl)).mono ?_
      rintro e w1 ⟨rfl, hst⟩
      have HS := hid hst
      clear hst
      have ho2 := own_keep HO.out HS.out.2.1 (fun g hg hf => by have := HG.out g hg; have := HL.out.lt g hf; omega)
      have HO2 := hid ho2
      clear ho2
      go_wp2_with (at_builtin; refine wpList_app info3 Try.underlying22 rfl (by omega) (by omega) (own_keep HO2.out ((Chg.refl Nn _).alloc _) (fun _ _ => id)) (Rds.one _ _ _) (by intro u hu; simp at hu; subst hu; rfl) (by omega) rfl rfl rfl rfl ?_; intro v2 w2 hown2 hchg2 hnew2; obtain ⟨A2, c2, rfl, _, _⟩ := own_form hown2; have HE := hid (pushed_step HL.out HC.out HG.out HS.out hown2 hchg2 hnew2); clear hown2 hchg2 hnew2)
      go_roundw
      case rel =>
        obtain ⟨e1, e2, e3, e4⟩ := HE.out
        rw [← HT.out] at e1 e3
        exact ⟨k + 1, by omega, by go_num, e1, e2, e3, e4⟩
      case measure => simp [intOf]; omega
    · have hkn : k = l.length := by omega
      have HK := hid hkn
      clear hkn
      go_wp2
      go_ret2
      have e1 := HO.out
      have e2 := HG.out
      have e3 := HN.out
      rw [HK.out] at e1 e2 e3 ⊢
      rw [List.take_length] at e1 e3
      exact ⟨_, rfl, e1, e2, e3, HC.out, fun g hg => .inl hg⟩

/-- A slice literal of numbers reads as these. -/
theorem Rds.lit (w : World) (t : TypeId) (xs : List Int) (S : Nat → Prop) (hs : ¬ S w.heap.size) : Rds S (w.alloc (.cells (ints xs).toArray t)) 1 (some ⟨w.heap.size, 0, none⟩) xs.length (ints xs) := by
  refine ⟨by simp [ints], fun _ => ⟨_, rfl, by simp, hs, fun j u hu => ?_⟩⟩
  rw [add_at, Nat.zero_add, (Blk.new w t _).cell]
  simpa using hu

set_option maxHeartbeats 400000 in
theorem awake_any (w : World) : Calls Try.prog 9 #[] w fun e w' => e = .returned (.bool true) ∧ Below w.heap.size w w' := by
  go_enter Try.func9, Try.ntmps9
  go_wp2_with fail
  refine (new_any 2 7 _ (by omega)).mono ?_
  rintro e w1 ⟨b, v, rfl, hn, hge, hb1⟩
  have h1 := hid hn
  have hb := hid hb1
  have hg := hid hge
  clear hn hb1 hge
  go_wp2_with fail
  refine (push_any b v _ 1 _ h1.out (by simp)).mono ?_
  rintro e w2 ⟨rfl, hs⟩
  have h2 := hid hs
  clear hs
  go_wp2_with fail
  refine (push_any b v _ 2 _ h2.out.1 (by simp [pushOf])).mono ?_
  rintro e w3 ⟨rfl, hs⟩
  have h3 := hid hs
  clear hs
  go_wp2_with fail
  refine (push_any b v _ 3 _ h3.out.1 (by simp [pushOf])).mono ?_
  rintro e w4 ⟨rfl, hs⟩
  have h4 := hid hs
  clear hs
  go_wp2_with fail
  refine (push_any b v _ 4 _ h4.out.1 (by simp [pushOf])).mono ?_
  rintro e w5 ⟨rfl, hs⟩
  have h5 := hid hs
  clear hs
  have e5 : pushOf (pushOf (pushOf (pushOf (List.replicate (Int.toNat 2) 7) 1) 2) 3) 4 = [3, 4] := rfl
  rw [e5] at h5
  clear e5
  go_wp2_with fail
  refine (values_any b v _ _ h5.out.1 (by simp)).mono ?_
  rintro e w6 ⟨v6, rfl, hv, hvg, hb6⟩
  obtain ⟨A, c, rfl, _, _⟩ := own_form hv
  have hr6 : Rds Nn (w6.alloc (.cells #[.int .i64 3, .int .i64 4] 3)) 1 A [(3 : Int), 4].length (ints [3, 4]) := (Rds.own hv (S := Nn) (fun _ _ => id)).keep ((Chg.refl Nn _).alloc _)
  have h6 := hid hr6
  have hb := hid (hb.out.trans (Chg.below (((h2.out.2.1.trans h3.out.2.1 (fun _ _ => id)).trans h4.out.2.1 (fun _ _ => id)).trans h5.out.2.1 (fun _ _ => id)) hb.out.size (fun q hq hf => by have := hg.out q hf; omega)))
  have hb := hid (hb.out.trans (hb6.mono hb.out.size))
  clear hv hvg hb6 hr6
  go_wp2_with fail
  refine (ints_any A (some ⟨w6.heap.size, 0, none⟩) _ _ [3, 4] [3, 4] _ h6.out (Rds.lit w6 3 [3, 4] Nn id) (by simp)).mono ?_
  rintro e w7 ⟨rfl, m, rfl⟩
  go_wp2
  go_ret
  exact ⟨rfl, pw_below_drewN ((hb.out).alloc (hb.out).size _) m⟩
end Go.Proofs.Ytlnbnankmafjaaa
