/- Chapter 32: readings that stay: the plain part of ChangeNone. -/
import Derived.Test.YtddphdkhaaolmaaG7
import Derived.Test.YtddphdkhaaolmaaCWPlain2
namespace Go.Proofs.Ytddphdkhaaolmaa
open Go.RowKit

theorem apW_self (a : Int) : apW a a = 0 := by
  unfold apW
  rw [if_neg (by omega), Int.sub_self]
  rfl
theorem wrap_nn (a : Int) : 0 ≤ IntKind.u64.wrap a := by rw [IntKind.wrap_u64]; omega
theorem meet_self {g : GR} (h1 : 0 ≤ g.bt) (h2 : 0 ≤ g.mt) : meetB g g.bs g.mo = true := by
  unfold meetB
  rw [apW_self, apW_self]
  exact decide_eq_true ⟨h1, h2, wrap_nn _, wrap_nn _⟩
theorem scan_rep {g : GR} {H x y : Int} (h : meetB g x y = true) : ∀ (k : Nat) (row i : Int), row < H → scan g H row i (List.replicate k [x, y]) = if H - row ≤ k then i + (H - row) else 0
  | 0, row, i, hr => by
    rw [if_neg (by omega)]
    rfl
  | k + 1, row, i, hr => by
    have e : (if meetB g ([x, y].getD 0 0) ([x, y].getD 1 0) = true then row + 1 else 0) = row + 1 := if_pos h
    rw [List.replicate_succ, scan, e]
    by_cases h2 : H ≤ row + 1
    · rw [if_pos h2, if_pos (by omega)]
      omega
    · rw [if_neg h2, scan_rep h k (row + 1) (i + 1) (by omega)]
      by_cases h3 : H - (row + 1) ≤ k
      · rw [if_pos h3, if_pos (by omega)]
        omega
      · rw [if_neg h3, if_neg (by omega)]
/-- At rest: Steps takes Hold steps, or none if Most is less. -/
theorem none_steps {b m : CP} {cp H M S v er oB oM : Int} {f t : GR} (hr : RestSpec b m cp f.bs f.mo oB oM f.bs f.mo 0) (h1 : t.bs = f.bs) (h2 : t.mo = f.mo) (h3 : 0 ≤ t.bt) (h4 : 0 ≤ t.mt) (hru : ruErr H M S = 0) (hf : fitB f = true) (hs : SSpec b m cp f t H M S v er) : (M < H → v = 0 ∧ er = 32) ∧ (H ≤ M → v = H ∧ er = 0) := by
  obtain ⟨r1, r2, r3, r4, _, _⟩ := ru_ok hru
  have hc : chkW b m cp = 0 := by
    by_cases hc : chkW b m cp = 0
    · exact hc
    · have := hr.1 hc; omega
  obtain ⟨f1, f2, f3⟩ := fit_yes hf
  have ht : fitB t = true := by unfold fitB at hf ⊢; rw [h1, h2]; exact hf
  have ho : okPath f t M := ⟨hf, ht, by omega, r4⟩
  obtain ⟨pe, l, hp, _, h6⟩ := hs.2 hru
  obtain ⟨oB', oM', vB, vM, hr', e1, e2⟩ := hp.2.2 hc ho
  obtain ⟨rfl, rfl, rfl, rfl, _⟩ := rest_same hr hr'
  obtain ⟨p1, p2⟩ := rests_plain hr (k := M.toNat) (by omega)
  rw [h1, h2] at e1 e2
  rw [p1] at e1
  rw [p2] at e2
  subst e1 e2
  obtain ⟨h7, h8⟩ := h6 rfl
  have hm : meetB t f.bs f.mo = true := by have := meet_self h3 h4; rw [h1, h2] at this; exact this
  rw [scan_rep hm M.toNat 0 0 (by omega)] at h7 h8
  refine ⟨fun h => ?_, fun h => ?_⟩
  · have e : (if H - 0 ≤ ((M.toNat : Nat) : Int) then 0 + (H - 0) else 0) = 0 := if_neg (by omega)
    rw [e] at h7 h8
    rw [if_pos rfl] at h8
    exact ⟨h7, h8⟩
  · have e : (if H - 0 ≤ ((M.toNat : Nat) : Int) then 0 + (H - 0) else 0) = 0 + (H - 0) := if_pos (by omega)
    have e3 : ¬ (0 + (H - 0) = 0) := by omega
    rw [e] at h7 h8
    rw [if_neg e3] at h8
    exact ⟨by omega, h8⟩
end Go.Proofs.Ytddphdkhaaolmaa
