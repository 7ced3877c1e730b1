/- Lose, Turn, Clear, New. -/
import Derived.Test.YtlagccfllnhgbaaNetF
import Derived.RegionTactic
import Derived.BigRegion
namespace Go.Proofs.Ytlagccfllnhgbaa
open Go.RowKit
set_option linter.unusedVariables false
set_option linter.unusedSimpArgs false

def swapL {α : Type} [Inhabited α] (l : List α) (i k : Nat) : List α := (l.set i (l.getD k default)).set k (l.getD i default)
section
variable {T : TypeId} {w w1 w2 : World} {base nb : Nat} {F H H' : Nat → Prop} {hv : Value} {vs : List Value} {rows : List (List Value)} {c : Cont}
theorem set_getD_self {α : Type} (l : List α) (j : Nat) (d : α) : l.set j (l.getD j d) = l := by
  apply List.ext_getElem?
  intro i
  rw [List.getElem?_set]
  split
  · rename_i e
    subst e
    split
    · rename_i h; simp [h]
    · rename_i h; rw [List.getElem?_eq_none (by omega)]
  · rfl
/-- row j holds other frames of its own, at the same place -/
theorem NetAt.inplace (h : NetAt T w base nb F H hv vs rows c) {j : Nat} (hj : j < vs.length) (hbase : base ≤ w.heap.size) (ho : Only (ownB (vs.getD j undef)) w w2) {row' : List Value} {crow' : List (List Int)}
    (hrow' : Row 26 w2 (vs.getD j undef) row') (hl : row'.length = crow'.length) (h400 : crow'.length ≤ 400)
    (hfr : ∀ i, i < crow'.length → ∃ i', i' < (c.row j).length ∧ row'.getD i undef = (rows.getD j []).getD i' undef ∧ crow'.getD i [] = (c.row j).getD i' []) :
    NetPost T base nb F H (c.set j crow') w w2 := by
  obtain ⟨s1, s2, s3⟩ := h.sep hj
  obtain ⟨wb, cp, A, cq, ehv, _⟩ := h.way hj
  have hwb : ownB hv wb := by rw [ehv]; exact ownB_slice.2 rfl
  have z := ho.size
  have fF : ∀ k, ownB (vs.getD j undef) k → F k := fun k hk => (h.foot k).2 (.inr (.inr ⟨j, hj, hk⟩))
  refine h.update (H' := H) (w1 := w2) (v' := vs.getD j undef) hj hbase ho hwb (Only.refl _ _) (by rw [set_getD_self]; exact h.top.only ho s2) hrow' (fun k hk => .inl hk) hl h400 (fun k hk => hk) (fun k hk => .inl hk) ?_ ?_
  · intro k hk
    have := h.hbox k hk
    exact ⟨by omega, this.2.imp id fun ⟨cs, hb⟩ => ⟨cs, ho.box hb fun e => h.fh (fF k e) hk⟩⟩
  · intro i hi
    obtain ⟨i', h1, h2, h3⟩ := hfr i hi
    rw [h2, h3]
    have hf := h.fr j i' hj h1
    exact ⟨hf.1.only ho fun k hk e => h.fh (fF k e) (hf.2 k hk), hf.2⟩
theorem swap_at (l : List Value) (m : List (List Int)) (i k a : Nat) (hl : l.length = m.length) (hi : i < m.length) (hk : k < m.length) (ha : a < m.length) :
    ∃ a', a' < m.length ∧ ((l.set i (l.getD k undef)).set k (l.getD i undef)).getD a undef = l.getD a' undef ∧ (swapL m i k).getD a [] = m.getD a' [] := by
  simp only [swapL, getD_set, List.length_set]
  by_cases h1 : k = a
  · subst h1
    exact ⟨i, hi, by rw [if_pos ⟨rfl, by omega⟩], by rw [if_pos ⟨rfl, by omega⟩]; rfl⟩
  · by_cases h2 : i = a
    · subst h2
      exact ⟨k, hk, by rw [if_neg (by omega), if_pos ⟨rfl, by omega⟩], by rw [if_neg (by omega), if_pos ⟨rfl, by omega⟩]; rfl⟩
    · exact ⟨a, ha, by rw [if_neg (by omega), if_neg (by omega)], by rw [if_neg (by omega), if_neg (by omega)]⟩
end
section
set_option maxHeartbeats 2000000
set_option maxRecDepth 100000
theorem nlose_no (p : Option Addr) (way i err : Int) (v : Value) (w : World) (ht : Calls Try.prog 15 #[.pointer p, .int .i64 way, .int .i64 i] w fun e w' => e = .returned (.tuple #[v, .int .i64 err]) ∧ w = w') :
    Calls Try.prog 44 #[.pointer p, .int .i64 way, .int .i64 i] w fun e w' => e = .returned (.int .i64 err) ∧ w = w' := by
  have H := Lib.hid ht; clear ht
  go_enter Try.func44, Try.ntmps44
  go_wp2_with (go_at_call 15; refine H.out.mono ?_; rintro e w' ⟨rfl, rfl⟩)
  go_ret
  exact ⟨rfl, rfl⟩
theorem nlose_yes (base nb : Nat) (F H : Nat → Prop) (c : Cont) (way i : Int) (w : World) (h : NetIs 75 w base nb F H c) (hbase : base ≤ w.heap.size) (hb : hasC c way i = true) :
    Calls Try.prog 44 #[.pointer (some ⟨nb, 0, none⟩), .int .i64 way, .int .i64 i] w (ErrPost base nb F H 0 (c.set way.toNat ((c.row way.toNat).eraseIdx i.toNat)) w) := by
  have Ht := Lib.hid (ntake_yes base nb F H c way i w h hbase hb)
  clear hb h
  go_enter Try.func44, Try.ntmps44
  go_wp2_with fail
  refine Ht.out.mono ?_
  rintro e w' ⟨v, rfl, _, _, hp⟩
  have Hp := Lib.hid hp
  clear hp
  go_wp2_with fail
  go_ret
  exact ⟨rfl, Hp.out⟩
theorem nturn_no1 (p : Option Addr) (way i k err : Int) (w : World) (herr : err ≠ 0) (ht : Calls Try.prog 43 #[.pointer p, .int .i64 way, .int .i64 i] w fun e w' => e = .returned (.int .i64 err) ∧ w = w') :
    Calls Try.prog 18 #[.pointer p, .int .i64 way, .int .i64 i, .int .i64 k] w fun e w' => e = .returned (.int .i64 err) ∧ w = w' := by
  have H := Lib.hid ht; clear ht
  have he : (err != 0) = true := by simp [herr]
  clear herr
  go_enter Try.func18, Try.ntmps18
  go_wp2_with fail
  refine H.out.mono ?_; rintro e w' ⟨rfl, rfl⟩
  go_wp2_with fail
  go_ret
  exact ⟨rfl, rfl⟩
theorem nturn_no2 (p : Option Addr) (way i k err : Int) (w : World) (herr : err ≠ 0) (ht0 : Calls Try.prog 43 #[.pointer p, .int .i64 way, .int .i64 i] w fun e w' => e = .returned (.int .i64 0) ∧ w = w')
    (ht : Calls Try.prog 43 #[.pointer p, .int .i64 way, .int .i64 k] w fun e w' => e = .returned (.int .i64 err) ∧ w = w') :
    Calls Try.prog 18 #[.pointer p, .int .i64 way, .int .i64 i, .int .i64 k] w fun e w' => e = .returned (.int .i64 err) ∧ w = w' := by
  have H0 := Lib.hid ht0; clear ht0
  have H := Lib.hid ht; clear ht
  have he : (err != 0) = true := by simp [herr]
  clear herr
  go_enter Try.func18, Try.ntmps18
  go_wp2_with fail
  refine H0.out.mono ?_; rintro e w' ⟨rfl, rfl⟩
  go_wp2_with fail
  refine H.out.mono ?_; rintro e w' ⟨rfl, rfl⟩
  go_wp2_with fail
  go_ret
  exact ⟨rfl, rfl⟩
theorem nturn_yes (base nb : Nat) (F H : Nat → Prop) (c : Cont) (way i k : Int) (w : World) (h : NetIs 75 w base nb F H c) (hbase : base ≤ w.heap.size) (hb : hasC c way i = true) (hbk : hasC c way k = true) :
    Calls Try.prog 18 #[.pointer (some ⟨nb, 0, none⟩), .int .i64 way, .int .i64 i, .int .i64 k] w (ErrPost base nb F H 0 (c.set way.toNat (swapL (c.row way.toNat) i.toNat k.toNat)) w) := by
  have ht := nwrong_any nb base F H c way i w h
  rw [hb] at ht
  have Ht := Lib.hid ht; clear ht
  have htk := nwrong_any nb base F H c way k w h
  rw [hbk] at htk
  have Htk := Lib.hid htk; clear htk
  simp only [hasC, thereC, Bool.and_eq_true, decide_eq_true_eq] at hb
  obtain ⟨⟨⟨hw0, hw1⟩, hi0⟩, hi1⟩ := hb
  simp only [hasC, thereC, Bool.and_eq_true, decide_eq_true_eq] at hbk
  obtain ⟨_, hk0⟩ := hbk.1
  have hk1 := hbk.2
  clear hbk
  obtain ⟨hv1, vs1, rows1, hA⟩ := h
  have hjv : way.toNat < vs1.length := by rw [← hA.nc]; omega
  obtain ⟨wb1, cp1, A1, cq1, ehv, n0, ev, n1, nf, hq1, hq2⟩ := hA.way hjv
  obtain ⟨sep1, sep2, sep3⟩ := hA.sep hjv
  have hown1 : ownB hv1 wb1 := by rw [ehv]; exact ownB_slice.2 rfl
  have hrowA := hA.row _ hjv
  have hrl := hA.clen _ hjv
  have h400 := hA.c400 _ hjv
  have hfr := hA.fr _ i.toNat hjv (by omega)
  have hflt := fun k (hk : ownB ((rows1.getD way.toNat []).getD i.toNat undef) k) => And.intro (hA.hbox k (hfr.2 k hk)).1 (fun hf => hA.fh hf (hfr.2 k hk))
  rw [ev] at sep1 sep2 hrowA
  have hne : nb ≠ wb1 := sep3 wb1 hown1
  have Ht1 := Lib.hid (sep2 wb1 hown1)
  have Ht2 := Lib.hid sep1
  have HA := Lib.hid hA
  have Hev := Lib.hid ev
  have Hrl := Lib.hid hrl
  have Hown1 := Lib.hid hown1
  have Hfr := Lib.hid hfr
  have Hflt := Lib.hid hflt
  have hvl := hA.nc
  have hvl32 := hA.c32
  rw [hvl] at hw1 hvl32
  clear hrl ehv sep1 sep2 sep3 hA ev hown1 hfr hflt hvl
  generalize hrv : rows1.getD way.toNat [] = rowv at *
  have Hrv := Lib.hid hrv; clear hrv
  generalize hm : (c.row way.toNat).length = m at *
  have Hm := Lib.hid hm; clear hm
  have hul : i.toNat < rowv.length := by rw [Hrl.out]; omega
  have hkl : k.toNat < rowv.length := by rw [Hrl.out]; omega
  obtain ⟨g, c8, eg, hcell, hfz⟩ := hrowA.cell (i := i.toNat) (u := rowv.getD i.toNat undef) (by simp [hul])
  obtain ⟨g2, c9, eg2, hcellk, hfzk⟩ := hrowA.cell (i := k.toNat) (u := rowv.getD k.toNat undef) (by simp [hkl])
  have eA : A1 = some ⟨g, 0, none⟩ := by injection eg
  have eA2 : A1 = some ⟨g2, 0, none⟩ := by injection eg2
  rw [eA] at eA2
  injection eA2 with eA2
  injection eA2 with eA2
  subst eA2 eA
  have Hrow := Lib.hid hrowA
  clear eg eg2 hrowA
  unfold maxLen at hq2
  obtain ⟨Af, cf, ef, _⟩ := Hfr.out.1
  have hfk := HA.out.fr _ k.toNat hjv (by rw [Hm.out]; omega)
  obtain ⟨Ak, ck, ek, _⟩ := hfk.1
  rw [Hrv.out] at ek
  clear hfk
  generalize hff : rowv.getD i.toNat undef = f at *
  have Hff := Lib.hid hff; clear hff
  generalize hfg : rowv.getD k.toNat undef = fk at *
  have Hfg := Lib.hid hfg; clear hfg
  generalize ((c.row way.toNat).getD i.toNat []).length = li at *
  generalize ((c.row way.toNat).getD k.toNat []).length = lk at *
  subst ef ek
  have key : ∀ w', Only (ownB (.slice (some ⟨g, 0, none⟩) m cq1)) w w' → Row 26 w' (.slice (some ⟨g, 0, none⟩) m cq1) ((rowv.set i.toNat (rowv.getD k.toNat undef)).set k.toNat (rowv.getD i.toNat undef)) →
      NetPost 75 base nb F H (c.set way.toNat (swapL (c.row way.toNat) i.toNat k.toNat)) w w' := by
    intro w' h1 h2
    refine HA.out.inplace hjv hbase (by rw [Hev.out]; exact h1) (by rw [Hev.out]; exact h2) ?_ ?_ ?_
    · simp only [swapL, List.length_set]; rw [Hrl.out, Hm.out]
    · simp only [swapL, List.length_set]; rw [Hm.out]; omega
    · intro a ha
      simp only [swapL, List.length_set] at ha
      rw [Hrv.out]
      exact swap_at rowv (c.row way.toNat) i.toNat k.toNat a (by rw [Hrl.out, Hm.out]) (by rw [Hm.out]; omega) (by rw [Hm.out]; omega) ha
  rw [Hff.out, Hfg.out] at key
  have Key := Lib.hid key
  clear key
  by_cases hik : i.toNat = k.toNat
  · obtain rfl : k = i := by omega
    have ee := Hff.out.symm.trans Hfg.out
    injection ee with e1 e2 e3
    subst e1 e2 e3
    clear hcellk hfzk hik
    go_enter Try.func18, Try.ntmps18
    go_wp2_with fail
    refine Ht.out.mono ?_; rintro e w' ⟨rfl, rfl⟩
    simp only [wrongN, if_true]
    go_wp2_with fail
    refine Ht.out.mono ?_; rintro e w' ⟨rfl, rfl⟩
    simp only [wrongN, if_true]
    go_wp2_with fail
    go_region
    go_wp2
    go_ret
    refine ⟨rfl, NetPost.drew1 (Key.out _ ?_ ?_)⟩
    · exact Only.setCell (p := ⟨g, _, none⟩) (Only.setCell (p := ⟨g, _, none⟩) (Only.refl _ _) (.inl (ownB_slice.2 rfl)) _) (.inl (ownB_slice.2 rfl)) _
    · exact (Hrow.out.store hul _ (ownB_slice.2 rfl)).store (by rw [List.length_set]; exact hul) _ (by rw [ownB_slice])
  · have hik2 : ¬ k.toNat = i.toNat := fun e => hik e.symm
    go_enter Try.func18, Try.ntmps18
    go_wp2_with fail
    refine Ht.out.mono ?_; rintro e w' ⟨rfl, rfl⟩
    simp only [wrongN, if_true]
    go_wp2_with fail
    refine Htk.out.mono ?_; rintro e w' ⟨rfl, rfl⟩
    simp only [wrongN, if_true]
    go_wp2_with fail
    go_region
    go_wp2
    go_ret
    refine ⟨rfl, NetPost.drew1 (Key.out _ ?_ ?_)⟩
    · exact Only.setCell (p := ⟨g, k.toNat, none⟩) (Only.setCell (p := ⟨g, i.toNat, none⟩) (Only.refl _ _) (.inl (ownB_slice.2 rfl)) _) (.inl (ownB_slice.2 rfl)) _
    · exact (Hrow.out.store hul _ (ownB_slice.2 rfl)).store (by rw [List.length_set]; exact hkl) _ (by rw [ownB_slice])

theorem nclear_no (p : Option Addr) (way : Int) (w : World) (ht : Calls Try.prog 41 #[.pointer p, .int .i64 way] w fun e w' => e = .returned (.bool false) ∧ w = w') :
    Calls Try.prog 45 #[.pointer p, .int .i64 way] w fun e w' => e = .returned (.tuple #[]) ∧ w = w' := by
  have H := Lib.hid ht; clear ht
  go_enter Try.func45, Try.ntmps45
  go_wp2_with (go_at_call 41; refine H.out.mono ?_; rintro e w' ⟨rfl, rfl⟩)
  go_end0
  exact ⟨rfl, rfl⟩
theorem nclear_core (nb wb n cp ln cq : Nat) (A : Option Addr) (way : Int) (w : World) (hw0 : 0 ≤ way) (hw1 : way < n) (hn : n ≤ 32) (h0 : w.cell? ⟨nb, 0, none⟩ = some (.slice (some ⟨wb, 0, none⟩) n cp))
    (h1 : w.cell? ⟨wb, way.toNat, none⟩ = some (.slice A ln cq)) (hf : w.frozen? ⟨wb, way.toNat, none⟩ = false)
    (ht : Calls Try.prog 41 #[.pointer (some ⟨nb, 0, none⟩), .int .i64 way] w fun e w' => e = .returned (.bool true) ∧ w = w') :
    Calls Try.prog 45 #[.pointer (some ⟨nb, 0, none⟩), .int .i64 way] w fun e w' => e = .returned (.tuple #[]) ∧ w.setCell ⟨wb, way.toNat, none⟩ (.slice none 0 0) = w' := by
  have H := Lib.hid ht; clear ht
  go_enter Try.func45, Try.ntmps45
  go_wp2_with (go_at_call 41; refine H.out.mono ?_; rintro e w' ⟨rfl, rfl⟩)
  go_end0
  exact ⟨rfl, rfl⟩
def clearC (c : Cont) (way : Int) : Cont := if thereC c way then c.set way.toNat [] else c
theorem nclear_any (base nb : Nat) (F H : Nat → Prop) (c : Cont) (way : Int) (w : World) (h : NetIs 75 w base nb F H c) (hbase : base ≤ w.heap.size) :
    Calls Try.prog 45 #[.pointer (some ⟨nb, 0, none⟩), .int .i64 way] w fun e w' => e = .returned (.tuple #[]) ∧ NetPost 75 base nb F H (clearC c way) w w' := by
  have ht := nthere_any nb base F H c way w h
  cases hb : thereC c way
  · rw [hb] at ht
    refine (nclear_no _ way w ht).mono ?_
    rintro e w' ⟨rfl, rfl⟩
    rw [clearC, hb, if_neg (by decide)]
    exact ⟨rfl, NetPost.same h (Only.refl _ _)⟩
  · rw [hb] at ht
    rw [clearC, hb, if_pos rfl]
    simp only [thereC, Bool.and_eq_true, decide_eq_true_eq] at hb
    obtain ⟨hv, vs, rows, h⟩ := h
    have hj : way.toNat < vs.length := by rw [← h.nc]; omega
    obtain ⟨wb, cp, A, cq, ehv, h0, _, h1, hf, _, _⟩ := h.way hj
    obtain ⟨s1, s2, s3⟩ := h.sep hj
    have hwb : ownB hv wb := by rw [ehv]; exact ownB_slice.2 rfl
    refine (nclear_core nb wb vs.length cp _ cq A way w hb.1 (by rw [← h.nc]; exact hb.2) (by rw [← h.nc]; exact h.c32) h0 h1 hf ht).mono ?_
    rintro e w' ⟨rfl, rfl⟩
    refine ⟨rfl, h.update (H' := H) (row' := []) (crow' := []) hj hbase (Only.refl _ _) hwb (Only.setCell (S := Just wb) (p := ⟨wb, _, none⟩) (Only.refl _ _) (.inl rfl) _) (h.top.store hj _ hwb) (Row.nil_ _ _) (fun k hk => (ownB_none hk).elim) rfl (Nat.zero_le _) (fun k hk => hk) (fun k hk => .inl hk) (fun k hk => h.hbox k hk) (fun i hi => absurd hi (Nat.not_lt_zero _))⟩
end
end Go.Proofs.Ytlagccfllnhgbaa
