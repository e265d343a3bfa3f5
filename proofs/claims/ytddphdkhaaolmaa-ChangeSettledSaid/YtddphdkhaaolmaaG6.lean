/- Chapter 32: Steps and Secs of both. -/
import Derived.Test.YtddphdkhaaolmaaG5
namespace Go.Proofs.Ytddphdkhaaolmaa
open Go.RowKit

theorem g_drop {α : Type} {l : List α} {k : Nat} {y : α} (h : l[k]? = some y) : l.drop k = y :: l.drop (k + 1) := by
  obtain ⟨h1, h2⟩ := List.getElem?_eq_some_iff.1 h
  rw [List.drop_eq_getElem_cons h1, h2]
theorem ru_ok {H M S : Int} (h : ruErr H M S = 0) : 1 ≤ H ∧ H ≤ 512 ∧ 1 ≤ M ∧ M ≤ 512 ∧ 1 ≤ S ∧ S ≤ 86400 := by
  unfold ruErr at h
  split at h
  · rename_i h1; exact h1
  · cases h
/-- The first step behind which enough readings in a row are permitted; 0: there is none. -/
def scan (g : GR) (hold : Int) : Int → Int → List (List Int) → Int
  | _, _, [] => 0
  | row, i, x :: l => if hold ≤ (if meetB g (x.getD 0 0) (x.getD 1 0) = true then row + 1 else 0) then i + 1 else scan g hold (if meetB g (x.getD 0 0) (x.getD 1 0) = true then row + 1 else 0) (i + 1) l
/-- What Steps returns. -/
def SSpec (b m : CP) (cp : Int) (f t : GR) (H M S v er : Int) : Prop :=
  (ruErr H M S ≠ 0 → v = 0 ∧ er = ruErr H M S) ∧ (ruErr H M S = 0 → ∃ pe l, PSpec b m cp f t M pe l ∧ (pe ≠ 0 → v = 0 ∧ er = pe) ∧ (pe = 0 → v = scan t H 0 0 l ∧ er = if scan t H 0 0 l = 0 then 32 else 0))
theorem steps_same {b m : CP} {cp : Int} {f t : GR} {H M S v er v' er' : Int} (h : SSpec b m cp f t H M S v er) (k : SSpec b m cp f t H M S v' er') : v = v' ∧ er = er' := by
  obtain ⟨h1, h2⟩ := h
  obtain ⟨k1, k2⟩ := k
  by_cases hr : ruErr H M S = 0
  · obtain ⟨pe, l, hp, h3, h4⟩ := h2 hr
    obtain ⟨pe', l', kp, k3, k4⟩ := k2 hr
    obtain ⟨rfl, rfl⟩ := path_same hp kp
    by_cases hz : pe = 0
    · obtain ⟨rfl, rfl⟩ := h4 hz
      obtain ⟨rfl, rfl⟩ := k4 hz
      exact ⟨rfl, rfl⟩
    · obtain ⟨rfl, rfl⟩ := h3 hz
      obtain ⟨rfl, rfl⟩ := k3 hz
      exact ⟨rfl, rfl⟩
  · obtain ⟨rfl, rfl⟩ := h1 hr
    obtain ⟨rfl, rfl⟩ := k1 hr
    exact ⟨rfl, rfl⟩
def StPost (b m : CP) (cp : Int) (f t : GR) (H M S : Int) (w : World) : Ending → World → Prop := fun e w' => ∃ v er, e = .returned (.tuple #[.int .i64 v, .int .i64 er]) ∧ SSpec b m cp f t H M S v er ∧ (0 ≤ v ∧ v ≤ 1000000) ∧ Below w.heap.size w w'
section
variable {b m : CP} {cp H M S : Int} {f t : GR} {w w' : World} {l : List (List Int)}
theorem st_r (h : ruErr H M S ≠ 0) (hb : Below w.heap.size w w') : StPost b m cp f t H M S w (.returned (.tuple #[.int .i64 0, .int .i64 (ruErr H M S)])) w' := ⟨_, _, rfl, ⟨fun _ => ⟨rfl, rfl⟩, fun e => absurd e h⟩, by decide, hb⟩
theorem st_p {pe : Int} (h : ruErr H M S = 0) (hp : PSpec b m cp f t M pe l) (hz : pe ≠ 0) (hb : Below w.heap.size w w') : StPost b m cp f t H M S w (.returned (.tuple #[.int .i64 0, .int .i64 pe])) w' := ⟨_, _, rfl, ⟨fun e => absurd h e, fun _ => ⟨pe, l, hp, fun _ => ⟨rfl, rfl⟩, fun e => absurd e hz⟩⟩, by decide, hb⟩
theorem st_ok {v : Int} (h : ruErr H M S = 0) (hp : PSpec b m cp f t M 0 l) (hv : v = scan t H 0 0 l) (h0 : 1 ≤ v ∧ v ≤ 1000000) (hb : Below w.heap.size w w') : StPost b m cp f t H M S w (.returned (.tuple #[.int .i64 v, .int .i64 0])) w' := ⟨_, _, rfl, ⟨fun e => absurd h e, fun _ => ⟨0, l, hp, fun e => absurd rfl e, fun _ => ⟨hv, by rw [← hv, if_neg (by omega)]⟩⟩⟩, by omega, hb⟩
theorem st_no (h : ruErr H M S = 0) (hp : PSpec b m cp f t M 0 l) (hv : scan t H 0 0 l = 0) (hb : Below w.heap.size w w') : StPost b m cp f t H M S w (.returned (.tuple #[.int .i64 0, .int .i64 32])) w' := ⟨_, _, rfl, ⟨fun e => absurd h e, fun _ => ⟨0, l, hp, fun e => absurd rfl e, fun _ => ⟨hv.symm, by rw [if_pos hv]⟩⟩⟩, by decide, hb⟩
end
set_option linter.unusedSimpArgs false in
set_option maxRecDepth 100000 in
set_option maxHeartbeats 16000000 in
theorem steps1_any (t : GR) (x y : Int) (p : Nat) (w : World) (hp : Blk w p 32 #[.string t.nm, .int .i64 t.bs, .int .i64 t.bt, .int .i64 t.mo, .int .i64 t.mt, .int .i64 t.ca, .slice t.ra t.rn t.rc, .int .i64 t.pr]) : Calls Try.prog 37 #[.agg #[.int .i64 x, .int .i64 y], .pointer (some ⟨p, 0, none⟩)] w fun e w' => e = .returned (.bool (meetB t x y)) ∧ Below w.heap.size w w' := by
  have HP := hid (Blk.alloc hp (.cells #[.int .i64 x, .int .i64 y] 60))
  have B0 := hid ((Below.refl w.heap.size w).alloc (Nat.le_refl _) (.cells #[.int .i64 x, .int .i64 y] 60))
  clear hp
  go_enter Try.func37, Try.ntmps37
  go_wp2_with (refine wpList_load_blk2 (t := 32) rfl rfl rfl Try.underlying32 rfl (by kernel_rfl) HP.out ?_)
  refine (meets_any t x y _).mono ?_
  rintro e w1 ⟨rfl, hb⟩
  have B1 := hid (B0.out.trans (hb.mono B0.out.size))
  clear hb
  go_wp2
  go_ret
  exact ⟨rfl, B1.out⟩
set_option linter.unusedSimpArgs false in
set_option maxRecDepth 100000 in
set_option maxHeartbeats 16000000 in
theorem steps_any (b m : CP) (cp : Int) (f t : GR) (H M S : Int) (w : World) : Calls Try.prog 17 #[.agg #[.int .i64 b.kp, .int .i64 b.ki, .int .i64 b.sh, .int .i64 b.lo, .int .i64 b.hi, .int .i64 b.rate, .int .i64 b.ga, .int .i64 b.la, .int .i64 b.de, .int .i64 m.kp, .int .i64 m.ki, .int .i64 m.sh, .int .i64 m.lo, .int .i64 m.hi, .int .i64 m.rate, .int .i64 m.ga, .int .i64 m.la, .int .i64 m.de, .int .i64 cp], .agg #[.string f.nm, .int .i64 f.bs, .int .i64 f.bt, .int .i64 f.mo, .int .i64 f.mt, .int .i64 f.ca, .slice f.ra f.rn f.rc, .int .i64 f.pr], .agg #[.string t.nm, .int .i64 t.bs, .int .i64 t.bt, .int .i64 t.mo, .int .i64 t.mt, .int .i64 t.ca, .slice t.ra t.rn t.rc, .int .i64 t.pr], .agg #[.int .i64 H, .int .i64 M, .int .i64 S]] w (StPost b m cp f t H M S w) := by
  have W0 := hid (Blk.alloc (Blk.alloc (Blk.alloc (Blk.at_new w (b := w.heap.size) (t := 29) (cs := #[.int .i64 b.kp, .int .i64 b.ki, .int .i64 b.sh, .int .i64 b.lo, .int .i64 b.hi, .int .i64 b.rate, .int .i64 b.ga, .int .i64 b.la, .int .i64 b.de, .int .i64 m.kp, .int .i64 m.ki, .int .i64 m.sh, .int .i64 m.lo, .int .i64 m.hi, .int .i64 m.rate, .int .i64 m.ga, .int .i64 m.la, .int .i64 m.de, .int .i64 cp]) rfl) (.cells #[.string f.nm, .int .i64 f.bs, .int .i64 f.bt, .int .i64 f.mo, .int .i64 f.mt, .int .i64 f.ca, .slice f.ra f.rn f.rc, .int .i64 f.pr] 32)) (.cells #[.string t.nm, .int .i64 t.bs, .int .i64 t.bt, .int .i64 t.mo, .int .i64 t.mt, .int .i64 t.ca, .slice t.ra t.rn t.rc, .int .i64 t.pr] 32)) (.cells #[.int .i64 H, .int .i64 M, .int .i64 S] 34))
  have F0 := hid (Blk.alloc (Blk.alloc (Blk.at_new (w.alloc (.cells #[.int .i64 b.kp, .int .i64 b.ki, .int .i64 b.sh, .int .i64 b.lo, .int .i64 b.hi, .int .i64 b.rate, .int .i64 b.ga, .int .i64 b.la, .int .i64 b.de, .int .i64 m.kp, .int .i64 m.ki, .int .i64 m.sh, .int .i64 m.lo, .int .i64 m.hi, .int .i64 m.rate, .int .i64 m.ga, .int .i64 m.la, .int .i64 m.de, .int .i64 cp] 29)) (b := w.heap.size + 1) (t := 32) (cs := #[.string f.nm, .int .i64 f.bs, .int .i64 f.bt, .int .i64 f.mo, .int .i64 f.mt, .int .i64 f.ca, .slice f.ra f.rn f.rc, .int .i64 f.pr]) (by simp)) (.cells #[.string t.nm, .int .i64 t.bs, .int .i64 t.bt, .int .i64 t.mo, .int .i64 t.mt, .int .i64 t.ca, .slice t.ra t.rn t.rc, .int .i64 t.pr] 32)) (.cells #[.int .i64 H, .int .i64 M, .int .i64 S] 34))
  have T0 := hid (Blk.alloc (Blk.at_new ((w.alloc (.cells #[.int .i64 b.kp, .int .i64 b.ki, .int .i64 b.sh, .int .i64 b.lo, .int .i64 b.hi, .int .i64 b.rate, .int .i64 b.ga, .int .i64 b.la, .int .i64 b.de, .int .i64 m.kp, .int .i64 m.ki, .int .i64 m.sh, .int .i64 m.lo, .int .i64 m.hi, .int .i64 m.rate, .int .i64 m.ga, .int .i64 m.la, .int .i64 m.de, .int .i64 cp] 29)).alloc (.cells #[.string f.nm, .int .i64 f.bs, .int .i64 f.bt, .int .i64 f.mo, .int .i64 f.mt, .int .i64 f.ca, .slice f.ra f.rn f.rc, .int .i64 f.pr] 32)) (b := w.heap.size + 1 + 1) (t := 32) (cs := #[.string t.nm, .int .i64 t.bs, .int .i64 t.bt, .int .i64 t.mo, .int .i64 t.mt, .int .i64 t.ca, .slice t.ra t.rn t.rc, .int .i64 t.pr]) (by simp)) (.cells #[.int .i64 H, .int .i64 M, .int .i64 S] 34))
  have R0 := hid (Blk.at_new (((w.alloc (.cells #[.int .i64 b.kp, .int .i64 b.ki, .int .i64 b.sh, .int .i64 b.lo, .int .i64 b.hi, .int .i64 b.rate, .int .i64 b.ga, .int .i64 b.la, .int .i64 b.de, .int .i64 m.kp, .int .i64 m.ki, .int .i64 m.sh, .int .i64 m.lo, .int .i64 m.hi, .int .i64 m.rate, .int .i64 m.ga, .int .i64 m.la, .int .i64 m.de, .int .i64 cp] 29)).alloc (.cells #[.string f.nm, .int .i64 f.bs, .int .i64 f.bt, .int .i64 f.mo, .int .i64 f.mt, .int .i64 f.ca, .slice f.ra f.rn f.rc, .int .i64 f.pr] 32)).alloc (.cells #[.string t.nm, .int .i64 t.bs, .int .i64 t.bt, .int .i64 t.mo, .int .i64 t.mt, .int .i64 t.ca, .slice t.ra t.rn t.rc, .int .i64 t.pr] 32)) (b := w.heap.size + 1 + 1 + 1) (t := 34) (cs := #[.int .i64 H, .int .i64 M, .int .i64 S]) (by simp))
  have B0 := hid (((((Below.refl w.heap.size w).alloc (Nat.le_refl _) (.cells #[.int .i64 b.kp, .int .i64 b.ki, .int .i64 b.sh, .int .i64 b.lo, .int .i64 b.hi, .int .i64 b.rate, .int .i64 b.ga, .int .i64 b.la, .int .i64 b.de, .int .i64 m.kp, .int .i64 m.ki, .int .i64 m.sh, .int .i64 m.lo, .int .i64 m.hi, .int .i64 m.rate, .int .i64 m.ga, .int .i64 m.la, .int .i64 m.de, .int .i64 cp] 29)).alloc (by simp) (.cells #[.string f.nm, .int .i64 f.bs, .int .i64 f.bt, .int .i64 f.mo, .int .i64 f.mt, .int .i64 f.ca, .slice f.ra f.rn f.rc, .int .i64 f.pr] 32)).alloc (by simp <;> omega) (.cells #[.string t.nm, .int .i64 t.bs, .int .i64 t.bt, .int .i64 t.mo, .int .i64 t.mt, .int .i64 t.ca, .slice t.ra t.rn t.rc, .int .i64 t.pr] 32)).alloc (by simp <;> omega) (.cells #[.int .i64 H, .int .i64 M, .int .i64 S] 34))
  go_enter Try.func17, Try.ntmps17
  go_wp2_with (refine wpList_load_blk2 (t := 34) rfl rfl rfl Try.underlying34 rfl (by kernel_rfl) R0.out ?_)
  refine (gcheck_any H M S _).mono ?_
  rintro e w1 ⟨rfl, hb⟩
  have B1 := hid (B0.out.trans (hb.mono B0.out.size))
  have W1 := hid (W0.out.below hb W0.out.lt)
  have F1 := hid (F0.out.below hb F0.out.lt)
  have T1 := hid (T0.out.below hb T0.out.lt)
  have R1 := hid (R0.out.below hb R0.out.lt)
  clear hb
  by_cases hr : ruErr H M S = 0
  rotate_left
  · have hz2 : (ruErr H M S != 0) = true := by simpa using hr
    have HR := hid hr
    clear hr
    go_wp2
    go_ret2
    exact st_r HR.out B1.out
  have HR := hid hr
  rw [hr]
  obtain ⟨r1, r2, r3, r4, r5, r6⟩ := ru_ok hr
  clear hr
  have c1 := R1.out.cell
  go_wp2_with (first | (refine wpList_load_blk2 (t := 29) rfl rfl rfl Try.underlying29 rfl (by kernel_rfl) W1.out ?_) | (refine wpList_load_blk2 (t := 32) rfl rfl rfl Try.underlying32 rfl (by kernel_rfl) F1.out ?_) | (refine wpList_load_blk2 (t := 32) rfl rfl rfl Try.underlying32 rfl (by kernel_rfl) T1.out ?_))
  refine (path_any b m cp f t M _).mono ?_
  rintro e w2 ⟨A, c, pe, l, rfl, hs, hrd, htw, ⟨_, hle⟩, hb⟩
  have PS := hid hs
  have RD := hid hrd
  have TW2 := hid htw
  clear hs hrd htw c1
  have B2 := hid (B1.out.trans (hb.mono B1.out.size))
  have W2 := hid (W1.out.below hb W1.out.lt)
  have F2 := hid (F1.out.below hb F1.out.lt)
  have T2 := hid (T1.out.below hb T1.out.lt)
  have R2 := hid (R1.out.below hb R1.out.lt)
  clear hb
  clear W0 F0 T0 R0 W1 F1 T1 R1 W2 F2
  by_cases hp : pe = 0
  rotate_left
  · have hz2 : (pe != 0) = true := by simpa using hp
    have HP := hid hp
    clear hp
    go_wp2
    go_ret2
    exact st_p HR.out PS.out HP.out B2.out
  subst hp
  obtain ⟨n, hn⟩ : ∃ n, l.length = n := ⟨_, rfl⟩
  have HN := hid hn
  rw [hn] at RD hle ⊢
  clear hn
  go_wp2
  go_loopw [14, 37] (fun ur ui wr => ∃ (k : Nat) (row : Int), k ≤ n ∧ ui = .int .i64 k ∧ ur = .int .i64 row ∧ (0 ≤ row ∧ row ≤ k) ∧ scan t H row k (l.drop k) = scan t H 0 0 l ∧ Below w2.heap.size w2 wr) (fun _ ui _ => n - (intOf ui).toNat)
  case atStart => exact ⟨0, 0, Nat.zero_le _, rfl, rfl, by omega, rfl, Below.refl _ _⟩
  case round =>
    obtain ⟨k, row, hk, rfl, rfl, hrow, hsc, hbel⟩ := hrel
    have BB := hid hbel
    clear hbel
    by_cases hlt : k < n
    · obtain ⟨p1, o1, x, y, rfl, _, hpq, hc⟩ := cells_at RD.out TW2.out HN.out.symm hlt
      obtain ⟨e1, e2⟩ := hc _ BB.out
      rw [g_drop hpq, scan] at hsc
      simp only [List.getD_cons_zero, List.getD_cons_succ] at hsc
      have SC := hid hsc
      have wk1 : IntKind.i64.wrap ((k : Int) + 1) = k + 1 := IntWalk.i64_in _ (by omega)
      have wk2 : IntKind.i64.wrap (row + 1) = row + 1 := IntWalk.i64_in _ (by omega)
      have TR := hid (Blk.alloc (T2.out.below BB.out T2.out.lt) (.cells #[.int .i64 x, .int .i64 y] 60))
      have RR := hid (Blk.alloc (R2.out.below BB.out R2.out.lt) (.cells #[.int .i64 x, .int .i64 y] 60))
      have BX := hid (BB.out.alloc BB.out.size (.cells #[.int .i64 x, .int .i64 y] 60))
      clear hc hpq hsc
      go_wp2_with fail
      refine (steps1_any t x y (w.heap.size + 1 + 1) _ TR.out).mono ?_
      rintro e w5 ⟨rfl, hb⟩
      have B5 := hid (BX.out.trans (hb.mono BX.out.size))
      have R5 := hid (RR.out.below hb RR.out.lt)
      clear hb e1 e2
      have c5 := R5.out.cell
      by_cases hm : meetB t x y = true
      · rw [hm]
        have SD := hid (by have := SC.out; rw [if_pos hm] at this; exact this)
        clear hm
        by_cases hh : H ≤ row + 1
        · have SE := hid (by have := SD.out; rw [if_pos hh] at this; exact this)
          go_wp2
          go_ret2
          exact st_ok HR.out PS.out (v := (k : Int) + 1) SE.out (by omega) (B2.out.trans (B5.out.mono B2.out.size))
        · have SE := hid (by have := SD.out; rw [if_neg hh] at this; exact this)
          go_wp2
          go_roundw
          case rel => exact ⟨k + 1, row + 1, by omega, by go_num, rfl, by omega, by have := SE.out; simpa using this, B5.out⟩
          case measure => simp [intOf]; omega
      · have hm2 : meetB t x y = false := by simpa using hm
        rw [hm2]
        have SD := hid (by have := SC.out; rw [if_neg hm] at this; exact this)
        clear hm hm2
        have hh : ¬ (H ≤ 0) := by omega
        have SE := hid (by have := SD.out; rw [if_neg hh] at this; exact this)
        go_wp2
        go_roundw
        case rel => exact ⟨k + 1, 0, by omega, by go_num, rfl, by omega, by have := SE.out; simpa using this, B5.out⟩
        case measure => simp [intOf]; omega
    · obtain rfl : n = k := by omega
      have SZ : Hid (scan t H 0 0 l = 0) := hid (by rw [← hsc, List.drop_eq_nil_of_le (by have := HN.out; omega)]; rfl)
      clear hsc
      go_wp2
      go_ret2
      exact st_no HR.out PS.out SZ.out (B2.out.trans (BB.out.mono B2.out.size))
set_option linter.unusedSimpArgs false in
set_option maxRecDepth 100000 in
set_option maxHeartbeats 16000000 in
theorem rsteps_any (b m : CP) (cp : Int) (f t : GR) (H M S : Int) (w : World) : Calls Try.prog 18 #[.agg #[.int .i64 b.kp, .int .i64 b.ki, .int .i64 b.sh, .int .i64 b.lo, .int .i64 b.hi, .int .i64 b.rate, .int .i64 b.ga, .int .i64 b.la, .int .i64 b.de, .int .i64 m.kp, .int .i64 m.ki, .int .i64 m.sh, .int .i64 m.lo, .int .i64 m.hi, .int .i64 m.rate, .int .i64 m.ga, .int .i64 m.la, .int .i64 m.de, .int .i64 cp], .agg #[.string f.nm, .int .i64 f.bs, .int .i64 f.bt, .int .i64 f.mo, .int .i64 f.mt, .int .i64 f.ca, .slice f.ra f.rn f.rc, .int .i64 f.pr], .agg #[.string t.nm, .int .i64 t.bs, .int .i64 t.bt, .int .i64 t.mo, .int .i64 t.mt, .int .i64 t.ca, .slice t.ra t.rn t.rc, .int .i64 t.pr], .agg #[.int .i64 H, .int .i64 M, .int .i64 S]] w (StPost b m cp f t H M S w) := by
  have W0 := hid (Blk.alloc (Blk.alloc (Blk.alloc (Blk.at_new w (b := w.heap.size) (t := 29) (cs := #[.int .i64 b.kp, .int .i64 b.ki, .int .i64 b.sh, .int .i64 b.lo, .int .i64 b.hi, .int .i64 b.rate, .int .i64 b.ga, .int .i64 b.la, .int .i64 b.de, .int .i64 m.kp, .int .i64 m.ki, .int .i64 m.sh, .int .i64 m.lo, .int .i64 m.hi, .int .i64 m.rate, .int .i64 m.ga, .int .i64 m.la, .int .i64 m.de, .int .i64 cp]) rfl) (.cells #[.string f.nm, .int .i64 f.bs, .int .i64 f.bt, .int .i64 f.mo, .int .i64 f.mt, .int .i64 f.ca, .slice f.ra f.rn f.rc, .int .i64 f.pr] 32)) (.cells #[.string t.nm, .int .i64 t.bs, .int .i64 t.bt, .int .i64 t.mo, .int .i64 t.mt, .int .i64 t.ca, .slice t.ra t.rn t.rc, .int .i64 t.pr] 32)) (.cells #[.int .i64 H, .int .i64 M, .int .i64 S] 45))
  have F0 := hid (Blk.alloc (Blk.alloc (Blk.at_new (w.alloc (.cells #[.int .i64 b.kp, .int .i64 b.ki, .int .i64 b.sh, .int .i64 b.lo, .int .i64 b.hi, .int .i64 b.rate, .int .i64 b.ga, .int .i64 b.la, .int .i64 b.de, .int .i64 m.kp, .int .i64 m.ki, .int .i64 m.sh, .int .i64 m.lo, .int .i64 m.hi, .int .i64 m.rate, .int .i64 m.ga, .int .i64 m.la, .int .i64 m.de, .int .i64 cp] 29)) (b := w.heap.size + 1) (t := 32) (cs := #[.string f.nm, .int .i64 f.bs, .int .i64 f.bt, .int .i64 f.mo, .int .i64 f.mt, .int .i64 f.ca, .slice f.ra f.rn f.rc, .int .i64 f.pr]) (by simp)) (.cells #[.string t.nm, .int .i64 t.bs, .int .i64 t.bt, .int .i64 t.mo, .int .i64 t.mt, .int .i64 t.ca, .slice t.ra t.rn t.rc, .int .i64 t.pr] 32)) (.cells #[.int .i64 H, .int .i64 M, .int .i64 S] 45))
  have T0 := hid (Blk.alloc (Blk.at_new ((w.alloc (.cells #[.int .i64 b.kp, .int .i64 b.ki, .int .i64 b.sh, .int .i64 b.lo, .int .i64 b.hi, .int .i64 b.rate, .int .i64 b.ga, .int .i64 b.la, .int .i64 b.de, .int .i64 m.kp, .int .i64 m.ki, .int .i64 m.sh, .int .i64 m.lo, .int .i64 m.hi, .int .i64 m.rate, .int .i64 m.ga, .int .i64 m.la, .int .i64 m.de, .int .i64 cp] 29)).alloc (.cells #[.string f.nm, .int .i64 f.bs, .int .i64 f.bt, .int .i64 f.mo, .int .i64 f.mt, .int .i64 f.ca, .slice f.ra f.rn f.rc, .int .i64 f.pr] 32)) (b := w.heap.size + 1 + 1) (t := 32) (cs := #[.string t.nm, .int .i64 t.bs, .int .i64 t.bt, .int .i64 t.mo, .int .i64 t.mt, .int .i64 t.ca, .slice t.ra t.rn t.rc, .int .i64 t.pr]) (by simp)) (.cells #[.int .i64 H, .int .i64 M, .int .i64 S] 45))
  have R0 := hid (Blk.at_new (((w.alloc (.cells #[.int .i64 b.kp, .int .i64 b.ki, .int .i64 b.sh, .int .i64 b.lo, .int .i64 b.hi, .int .i64 b.rate, .int .i64 b.ga, .int .i64 b.la, .int .i64 b.de, .int .i64 m.kp, .int .i64 m.ki, .int .i64 m.sh, .int .i64 m.lo, .int .i64 m.hi, .int .i64 m.rate, .int .i64 m.ga, .int .i64 m.la, .int .i64 m.de, .int .i64 cp] 29)).alloc (.cells #[.string f.nm, .int .i64 f.bs, .int .i64 f.bt, .int .i64 f.mo, .int .i64 f.mt, .int .i64 f.ca, .slice f.ra f.rn f.rc, .int .i64 f.pr] 32)).alloc (.cells #[.string t.nm, .int .i64 t.bs, .int .i64 t.bt, .int .i64 t.mo, .int .i64 t.mt, .int .i64 t.ca, .slice t.ra t.rn t.rc, .int .i64 t.pr] 32)) (b := w.heap.size + 1 + 1 + 1) (t := 45) (cs := #[.int .i64 H, .int .i64 M, .int .i64 S]) (by simp))
  have B0 := hid (((((Below.refl w.heap.size w).alloc (Nat.le_refl _) (.cells #[.int .i64 b.kp, .int .i64 b.ki, .int .i64 b.sh, .int .i64 b.lo, .int .i64 b.hi, .int .i64 b.rate, .int .i64 b.ga, .int .i64 b.la, .int .i64 b.de, .int .i64 m.kp, .int .i64 m.ki, .int .i64 m.sh, .int .i64 m.lo, .int .i64 m.hi, .int .i64 m.rate, .int .i64 m.ga, .int .i64 m.la, .int .i64 m.de, .int .i64 cp] 29)).alloc (by simp) (.cells #[.string f.nm, .int .i64 f.bs, .int .i64 f.bt, .int .i64 f.mo, .int .i64 f.mt, .int .i64 f.ca, .slice f.ra f.rn f.rc, .int .i64 f.pr] 32)).alloc (by simp <;> omega) (.cells #[.string t.nm, .int .i64 t.bs, .int .i64 t.bt, .int .i64 t.mo, .int .i64 t.mt, .int .i64 t.ca, .slice t.ra t.rn t.rc, .int .i64 t.pr] 32)).alloc (by simp <;> omega) (.cells #[.int .i64 H, .int .i64 M, .int .i64 S] 45))
  go_enter Try.func18, Try.ntmps18
  go_wp2_with (refine wpList_load_blk2 (t := 45) rfl rfl rfl Try.underlying45 rfl (by kernel_rfl) R0.out ?_)
  refine (rgcheck_any H M S _).mono ?_
  rintro e w1 ⟨rfl, hb⟩
  have B1 := hid (B0.out.trans (hb.mono B0.out.size))
  have W1 := hid (W0.out.below hb W0.out.lt)
  have F1 := hid (F0.out.below hb F0.out.lt)
  have T1 := hid (T0.out.below hb T0.out.lt)
  have R1 := hid (R0.out.below hb R0.out.lt)
  clear hb
  by_cases hr : ruErr H M S = 0
  rotate_left
  · have hz2 : (ruErr H M S != 0) = true := by simpa using hr
    have HR := hid hr
    clear hr
    go_wp2
    go_ret2
    exact st_r HR.out B1.out
  have HR := hid hr
  rw [hr]
  obtain ⟨r1, r2, r3, r4, r5, r6⟩ := ru_ok hr
  clear hr
  have c1 := R1.out.cell
  go_wp2_with (first | (refine wpList_load_blk2 (t := 29) rfl rfl rfl Try.underlying29 rfl (by kernel_rfl) W1.out ?_) | (refine wpList_load_blk2 (t := 32) rfl rfl rfl Try.underlying32 rfl (by kernel_rfl) F1.out ?_) | (refine wpList_load_blk2 (t := 32) rfl rfl rfl Try.underlying32 rfl (by kernel_rfl) T1.out ?_))
  refine (rpath_any b m cp f t M _).mono ?_
  rintro e w2 ⟨A, c, pe, l, rfl, hs, hrd, htw, ⟨_, hle⟩, hb⟩
  have PS := hid hs
  have RD := hid hrd
  have TW2 := hid htw
  clear hs hrd htw c1
  have B2 := hid (B1.out.trans (hb.mono B1.out.size))
  have W2 := hid (W1.out.below hb W1.out.lt)
  have F2 := hid (F1.out.below hb F1.out.lt)
  have T2 := hid (T1.out.below hb T1.out.lt)
  have R2 := hid (R1.out.below hb R1.out.lt)
  clear hb
  clear W0 F0 T0 R0 W1 F1 T1 R1 W2 F2
  by_cases hp : pe = 0
  rotate_left
  · have hz2 : (pe != 0) = true := by simpa using hp
    have HP := hid hp
    clear hp
    go_wp2
    go_ret2
    exact st_p HR.out PS.out HP.out B2.out
  subst hp
  obtain ⟨n, hn⟩ : ∃ n, l.length = n := ⟨_, rfl⟩
  have HN := hid hn
  rw [hn] at RD hle ⊢
  clear hn
  go_wp2
  go_loopw [13, 14] (fun ur ui wr => ∃ (k : Nat) (row : Int), k ≤ n ∧ ui = .int .i64 ((k : Int) + 1) ∧ ur = .int .i64 row ∧ (0 ≤ row ∧ row ≤ k) ∧ scan t H row k (l.drop k) = scan t H 0 0 l ∧ Below w2.heap.size w2 wr) (fun _ ui _ => n + 1 - (intOf ui).toNat)
  case atStart => exact ⟨0, 0, Nat.zero_le _, rfl, rfl, by omega, rfl, Below.refl _ _⟩
  case round =>
    obtain ⟨k, row, hk, rfl, rfl, hrow, hsc, hbel⟩ := hrel
    have BB := hid hbel
    clear hbel
    by_cases hlt : k < n
    · obtain ⟨p1, o1, x, y, rfl, _, hpq, hc⟩ := cells_at RD.out TW2.out HN.out.symm hlt
      have HC := hid hc
      rw [g_drop hpq, scan] at hsc
      simp only [List.getD_cons_zero, List.getD_cons_succ] at hsc
      have SC := hid hsc
      have wk0 : IntKind.i64.wrap (k : Int) = k := IntWalk.i64_in _ (by omega)
      have wk1 : IntKind.i64.wrap ((k : Int) + 1 + 1) = (k : Int) + 1 + 1 := IntWalk.i64_in _ (by omega)
      have wk2 : IntKind.i64.wrap (row + 1) = row + 1 := IntWalk.i64_in _ (by omega)
      have hkn : ((k : Int) + 1 ≤ n) := by omega
      clear hc hpq hsc
      go_upto_region 12 with fail
      refine wp_region_hand (fun w' => Blk w' (w.heap.size + 1 + 1) 32 #[.string t.nm, .int .i64 t.bs, .int .i64 t.bt, .int .i64 t.mo, .int .i64 t.mt, .int .i64 t.ca, .slice t.ra t.rn t.rc, .int .i64 t.pr] ∧ Below w2.heap.size w2 w') (by kernel_rfl) ?_
      simp only [List.length_cons, List.length_nil, Nat.zero_add, Nat.reduceAdd]
      have hS : Blk wr.drew (w.heap.size + 1 + 1) 32 #[.string t.nm, .int .i64 t.bs, .int .i64 t.bt, .int .i64 t.mo, .int .i64 t.mt, .int .i64 t.ca, .slice t.ra t.rn t.rc, .int .i64 t.pr] ∧ Below w2.heap.size w2 wr.drew := ⟨Blk.drew (T2.out.below BB.out T2.out.lt), Below.drew BB.out⟩
      refine take_at (i := 0) (v := .agg #[.string t.nm, .int .i64 t.bs, .int .i64 t.bt, .int .i64 t.mo, .int .i64 t.mt, .int .i64 t.ca, .slice t.ra t.rn t.rc, .int .i64 t.pr]) rfl rfl (by kernel_rfl) (by kernel_rfl) (by kernel_rfl) (fun _ _ _ h => h) (Or.inl ⟨by rfl, fun wi hSw => exec_loads (p := .pointer (some ⟨w.heap.size + 1 + 1, 0, none⟩)) rfl rfl (load_blk hSw.1 Try.underlying32 rfl (by kernel_rfl))⟩) hS ?_
      try simp only [List.setIfInBounds_toArray, List.set_cons_zero, List.set_cons_succ]
      refine take_at (i := 1) (v := ?_) rfl rfl (by kernel_rfl) (by kernel_rfl) (by kernel_rfl) (fun _ _ _ h => h) (Or.inl ⟨by rfl, ?_⟩) hS ?_
      rotate_left
      · intro w hSw; (try dsimp only at hSw); go_simp; try with_reducible rfl
      try simp only [List.setIfInBounds_toArray, List.set_cons_zero, List.set_cons_succ]
      refine take_at (i := 2) (v := ?_) rfl rfl (by kernel_rfl) (by kernel_rfl) (by kernel_rfl) (fun _ _ _ h => h) (Or.inl ⟨by rfl, ?_⟩) hS ?_
      rotate_left
      · intro w hSw; (try dsimp only at hSw); go_simp; try with_reducible rfl
      try simp only [List.setIfInBounds_toArray, List.set_cons_zero, List.set_cons_succ]
      refine take_at (i := 3) (v := ?_) rfl rfl (by kernel_rfl) (by kernel_rfl) (by kernel_rfl) (fun _ _ _ h => h) (Or.inl ⟨by rfl, ?_⟩) hS ?_
      rotate_left
      · intro w hSw; (try dsimp only at hSw); go_simp; try with_reducible rfl
      try simp only [List.setIfInBounds_toArray, List.set_cons_zero, List.set_cons_succ]
      refine take_at (i := 4) (v := ?_) rfl rfl (by kernel_rfl) (by kernel_rfl) (by kernel_rfl) (fun _ _ _ h => h) (Or.inl ⟨by rfl, ?_⟩) hS ?_
      rotate_left
      · intro w hSw; (try dsimp only at hSw); go_simp; try with_reducible rfl
      try simp only [List.setIfInBounds_toArray, List.set_cons_zero, List.set_cons_succ]
      refine take_at (i := 5) (v := .agg #[.int .i64 x, .int .i64 y]) rfl rfl (by kernel_rfl) (by kernel_rfl) (by kernel_rfl) (fun _ _ _ h => h) (Or.inl ⟨by rfl, fun wi hSw => exec_loads (p := .pointer (some ⟨p1, o1 + k * 2, none⟩)) rfl rfl (load_two (HC.out _ hSw.2).1 (HC.out _ hSw.2).2 Try.underlying60 rfl (by kernel_rfl))⟩) hS ?_
      try simp only [List.setIfInBounds_toArray, List.set_cons_zero, List.set_cons_succ]
      refine wpAnyH_ready (rs := [6]) (by kernel_rfl) (by simp) ?_
      refine AllReadyH.cons rfl (fun K hK => ?_) AllReadyH.nil
      go_simp
      (go_at_call 38; refine (rmeets_any t x y _).mono ?_; rintro e w5 ⟨rfl, hb⟩; have HB := hid (show Below wr.heap.size wr w5 from by first | exact hb | exact (Below.drew (Below.refl _ _)).trans hb); have B5 := hid (BB.out.trans (HB.out.mono BB.out.size)); have T5 := hid (T2.out.below B5.out T2.out.lt); have R5 := hid (R2.out.below B5.out R2.out.lt); clear hb HB)
      refine hK.out _ _ ⟨T5.out, B5.out⟩ (fun hS => ?_)
      clear hK K
      try simp only [Act.put, List.setIfInBounds_toArray, List.set_cons_zero, List.set_cons_succ]
      have c5 := R5.out.cell
      by_cases hm : meetB t x y = true
      · rw [hm]
        have SD := hid (by have := SC.out; rw [if_pos hm] at this; exact this)
        clear hm
        refine take_at (i := 7) (v := ?_) rfl rfl (by kernel_rfl) (by kernel_rfl) (by kernel_rfl) (fun _ _ _ h => h) (Or.inl ⟨by rfl, ?_⟩) hS ?_
        rotate_left
        · intro w hSw; (try dsimp only at hSw); go_simp; try with_reducible rfl
        try simp only [List.setIfInBounds_toArray, List.set_cons_zero, List.set_cons_succ]
        refine wpAnyH_done (by kernel_rfl) ?_ _
        simp only [Sure, Exit.then]
        clear hS
        try simp only [Exit.inBlock, Exit.then]
        by_cases hh : H ≤ row + 1
        · have SE := hid (by have := SD.out; rw [if_pos hh] at this; exact this)
          go_wp2
          go_ret2
          exact st_ok HR.out PS.out (v := (k : Int) + 1) SE.out (by omega) (B2.out.trans (B5.out.mono B2.out.size))
        · have SE := hid (by have := SD.out; rw [if_neg hh] at this; exact this)
          go_wp2
          go_roundw
          case rel => exact ⟨k + 1, row + 1, by omega, by go_num, rfl, by omega, by have := SE.out; simpa using this, B5.out⟩
          case measure => simp [intOf]; omega
      · have hm2 : meetB t x y = false := by simpa using hm
        rw [hm2]
        have SD := hid (by have := SC.out; rw [if_neg hm] at this; exact this)
        clear hm hm2
        refine take_at (i := 7) (v := ?_) rfl rfl (by kernel_rfl) (by kernel_rfl) (by kernel_rfl) (fun _ _ _ h => h) (Or.inl ⟨by rfl, ?_⟩) hS ?_
        rotate_left
        · intro w hSw; (try dsimp only at hSw); go_simp; try with_reducible rfl
        try simp only [List.setIfInBounds_toArray, List.set_cons_zero, List.set_cons_succ]
        refine wpAnyH_done (by kernel_rfl) ?_ _
        simp only [Sure, Exit.then]
        clear hS
        try simp only [Exit.inBlock, Exit.then]
        have hh : ¬ (H ≤ 0) := by omega
        have SE := hid (by have := SD.out; rw [if_neg hh] at this; exact this)
        go_wp2
        go_roundw
        case rel => exact ⟨k + 1, 0, by omega, by go_num, rfl, by omega, by have := SE.out; simpa using this, B5.out⟩
        case measure => simp [intOf]; omega
    · obtain rfl : n = k := by omega
      have SZ : Hid (scan t H 0 0 l = 0) := hid (by rw [← hsc, List.drop_eq_nil_of_le (by have := HN.out; omega)]; rfl)
      clear hsc
      have hkn : ¬ ((n : Int) + 1 ≤ n) := by omega
      go_wp2
      go_ret2
      exact st_no HR.out PS.out SZ.out (B2.out.trans (BB.out.mono B2.out.size))
end Go.Proofs.Ytddphdkhaaolmaa
