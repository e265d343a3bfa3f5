/- Two processes that go on side by side. -/
import Derived.Test.YtiphcdjfmihliaaPlain26
namespace Go.Proofs.Ytiphcdjfmihliaa
open Go.RowKit

/-- Two processes of the program's, apart, in new memory. -/
structure Pair (w0 w : World) (k b lb b2 lb2 : Nat) (lv lv2 : Value) (ga la v v2 : Int) (D : Nat) (xs xs2 : List Int) : Prop where
  p : PSt w b ga la (D : Int) v lb lv xs
  q : PSt w b2 ga la (D : Int) v2 lb2 lv2 xs2
  chk : chkP ga la (D : Int) = 0
  len : xs.length = D
  len2 : xs2.length = D
  okl : OkL xs
  okl2 : OkL xs2
  vb : -(1073741824 + 65537 * (k : Int)) ≤ v ∧ v ≤ 1073741824 + 65537 * (k : Int)
  vb2 : -(1073741824 + 65537 * (k : Int)) ≤ v2 ∧ v2 ≤ 1073741824 + 65537 * (k : Int)
  pge : ∀ j, Fs b lb lv j → w0.heap.size ≤ j
  qge : ∀ j, Fs b2 lb2 lv2 j → w0.heap.size ≤ j
  dis : ∀ j, Fs b lb lv j → ¬ Fs b2 lb2 lv2 j
  bel : Below w0.heap.size w0 w
section
variable {w0 w w2 w3 : World} {k b lb b2 lb2 : Nat} {lv lv2 : Value} {ga la v v2 v' v2' : Int} {D : Nat} {xs xs2 xs' xs2' : List Int}
theorem Pair.small (T : Pair w0 w k b lb b2 lb2 lv lv2 ga la v v2 D xs xs2) (hk : k ≤ 600) : -1125899906842624 ≤ v ∧ v ≤ 1125899906842624 := by have := T.vb; omega
theorem Pair.small2 (T : Pair w0 w k b lb b2 lb2 lv lv2 ga la v v2 D xs xs2) (hk : k ≤ 600) : -1125899906842624 ≤ v2 ∧ v2 ≤ 1125899906842624 := by have := T.vb2; omega
theorem Pair.short (T : Pair w0 w k b lb b2 lb2 lv lv2 ga la v v2 D xs xs2) : xs.length ≤ 1000 ∧ xs2.length ≤ 1000 := by have := T.len; have := T.len2; obtain ⟨_, _, _, _, _, h⟩ := chkP_ok T.chk; omega
theorem Pair.stepP (T : Pair w0 w k b lb b2 lb2 lv lv2 ga la v v2 D xs xs2) (hc : Chg (Fs b lb lv) w w2) : PSt w2 b2 ga la (D : Int) v2 lb2 lv2 xs2 ∧ Below w0.heap.size w0 w2 :=
  ⟨T.q.keep hc (fun j hj hf => T.dis j hf hj), hc.then_below T.bel (fun j hj hf => by have := T.pge j hf; omega) T.bel.size⟩
theorem Pair.stepQ (T : Pair w0 w k b lb b2 lb2 lv lv2 ga la v v2 D xs xs2) (hb : Below w0.heap.size w0 w2) (hp : PSt w2 b ga la (D : Int) v' lb lv xs') (hr : PSt w3 b2 ga la (D : Int) v2' lb2 lv2 xs2') (hc : Chg (Fs b2 lb2 lv2) w2 w3)
    (h1 : xs'.length = D) (h2 : OkL xs') (h4 : -(1073741824 + 65537 * ((k + 1 : Nat) : Int)) ≤ v' ∧ v' ≤ 1073741824 + 65537 * ((k + 1 : Nat) : Int)) (h5 : xs2'.length = D) (h6 : OkL xs2') (h7 : -(1073741824 + 65537 * ((k + 1 : Nat) : Int)) ≤ v2' ∧ v2' ≤ 1073741824 + 65537 * ((k + 1 : Nat) : Int)) : Pair w0 w3 (k + 1) b lb b2 lb2 lv lv2 ga la v' v2' D xs' xs2' :=
  ⟨hp.keep hc (fun j hj hf => T.dis j hj hf), hr, T.chk, h1, h5, h2, h6, h4, h7, T.pge, T.qge, T.dis, hc.then_below hb (fun j hj hf => by have := T.qge j hf; omega) hb.size⟩
end
theorem pr_order {ga la v u o d : Int} {xs : List Int} (hla : 1 ≤ la) (h : v ≤ u) : pV ga la v xs o d ≤ pV ga la u xs o d ∧ pR ga la v xs o d ≤ pR ga la u xs o d := by
  have := keep_order (T := tgt ga (outOf xs o)) hla h
  unfold pR pV
  split
  · omega
  · exact ⟨h, Int.le_refl _⟩
end Go.Proofs.Ytiphcdjfmihliaa
