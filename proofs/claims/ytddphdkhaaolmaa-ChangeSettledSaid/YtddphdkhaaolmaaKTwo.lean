/- Two processes, the program's and the reference's, that go on side by side. -/
import Derived.Test.YtddphdkhaaolmaaKPlain
namespace Go.Proofs.Ytddphdkhaaolmaa
open Go.RowKit


theorem RSt.drew {w : World} {b : Nat} {ga la de v : Int} {lv : Value} {xs : List Int} (h : RSt w b ga la de v lv xs) : RSt w.drew b ga la de v lv xs := h.keep ((Chg.refl Nn _).drew) (fun _ _ => id)
/-- The program's process at b and the reference's at rb have the same value and keep the same; both lie apart, in new memory. -/
structure Two (w0 w : World) (k b lb rb : Nat) (lv rlv : Value) (ga la v : Int) (D : Nat) (xs pre : List Int) : Prop where
  p : PSt w b ga la (D : Int) v lb lv xs
  r : RSt w rb ga la (D : Int) v rlv (pre ++ xs)
  chk : chkP ga la (D : Int) = 0
  len : xs.length = D
  okl : OkL xs
  pl : pre.length ≤ k
  vb : -(1073741824 + 65537 * (k : Int)) ≤ v ∧ v ≤ 1073741824 + 65537 * (k : Int)
  pge : ∀ j, Fs b lb lv j → w0.heap.size ≤ j
  rge : ∀ j, Fr rb rlv j → w0.heap.size ≤ j
  dis : ∀ j, Fs b lb lv j → ¬ Fr rb rlv j
  bel : Below w0.heap.size w0 w
section
variable {w0 w w2 w3 : World} {k b lb rb : Nat} {lv rlv rlv' : Value} {ga la v v' : Int} {D : Nat} {xs xs' pre pre' : List Int}
theorem Two.small (T : Two w0 w k b lb rb lv rlv ga la v D xs pre) (hk : k ≤ 600) : -1125899906842624 ≤ v ∧ v ≤ 1125899906842624 := by have := T.vb; omega
theorem Two.short (T : Two w0 w k b lb rb lv rlv ga la v D xs pre) : xs.length ≤ 1000 := by have := T.len; obtain ⟨_, _, _, _, _, h⟩ := chkP_ok T.chk; omega
theorem Two.stepP (T : Two w0 w k b lb rb lv rlv ga la v D xs pre) (hc : Chg (Fs b lb lv) w w2) : RSt w2 rb ga la (D : Int) v rlv (pre ++ xs) ∧ Below w0.heap.size w0 w2 :=
  ⟨T.r.keep hc (fun j hj hf => T.dis j hf hj), hc.then_below T.bel (fun j hj hf => by have := T.pge j hf; omega) T.bel.size⟩
theorem Two.stepR (T : Two w0 w k b lb rb lv rlv ga la v D xs pre) (hb : Below w0.heap.size w0 w2) (hp : PSt w2 b ga la (D : Int) v' lb lv xs') (hr : RSt w3 rb ga la (D : Int) v' rlv' (pre' ++ xs')) (hc : Chg (Fr rb rlv) w2 w3) (hn : Newer w2 rlv rlv')
    (h1 : xs'.length = D) (h2 : OkL xs') (h3 : pre'.length ≤ k + 1) (h4 : -(1073741824 + 65537 * ((k + 1 : Nat) : Int)) ≤ v' ∧ v' ≤ 1073741824 + 65537 * ((k + 1 : Nat) : Int)) : Two w0 w3 (k + 1) b lb rb lv rlv' ga la v' D xs' pre' := by
  refine ⟨hp.keep hc (fun j hj hf => T.dis j hj hf), hr, T.chk, h1, h2, h3, h4, T.pge, fun j hj => ?_, fun j hj hf => ?_, hc.then_below hb (fun j hj hf => by have := T.rge j hf; omega) hb.size⟩
  · rcases hj with rfl | hj
    · exact T.rge _ (.inl rfl)
    · rcases hn j hj with h | h
      · exact T.rge j (.inr h)
      · have := hb.size; omega
  · rcases hf with rfl | hf
    · exact T.dis _ hj (.inl rfl)
    · rcases hn j hf with h | h
      · exact T.dis j hj (.inr h)
      · have := hp.lt j hj; omega
end
end Go.Proofs.Ytddphdkhaaolmaa
