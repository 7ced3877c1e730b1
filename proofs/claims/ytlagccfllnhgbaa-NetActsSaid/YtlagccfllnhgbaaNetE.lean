/- Take. -/
import Derived.Test.YtlagccfllnhgbaaNetD
namespace Go.Proofs.Ytlagccfllnhgbaa
open Go.RowKit
set_option linter.unusedVariables false
set_option linter.unusedSimpArgs false

theorem getD_erase {α : Type} (l : List α) (i j : Nat) (d : α) : (l.eraseIdx i).getD j d = if j < i then l.getD j d else l.getD (j + 1) d := by
  simp only [List.getD, List.getElem?_eraseIdx]
  split <;> rfl
section
variable {T : TypeId} {w w1 w2 : World} {base nb : Nat} {F H H' : Nat → Prop} {hv : Value} {vs : List Value} {rows : List (List Value)} {c : Cont}
theorem NetAt.one (h : NetAt T w base nb F H hv vs rows c) {j : Nat} (hj : j < vs.length) : ∀ u ∈ rows.getD j [], u.oneCell' = true := by
  intro u hu
  obtain ⟨i, hi, rfl⟩ := List.mem_iff_getElem.1 hu
  have := h.clen j hj
  obtain ⟨A, cp, e, _⟩ := (h.fr j i hj (by omega)).1
  have e2 : ∀ (l : List Value) (h : i < l.length), l.getD i undef = l[i] := fun l h => by simp [h]
  rw [e2 _ hi] at e
  rw [e]; rfl
theorem Src.drop {g : Nat} {xs : List Value} (h : Src w (some ⟨g, 0, none⟩) xs) (k : Nat) : Src w (some ⟨g, k, none⟩) (xs.drop k) := by
  intro j u hj
  rw [List.getElem?_drop] at hj
  obtain ⟨g', o, e, hc⟩ := h (k + j) u hj
  injection e with e
  injection e with e1 e2
  subst e1 e2
  exact ⟨_, _, rfl, by rw [Nat.zero_add] at hc; exact hc⟩
theorem NetAt.erase (h : NetAt T w base nb F H hv vs rows c) {j i : Nat} (hj : j < vs.length) (hbase : base ≤ w.heap.size) (hi : i < (c.row j).length) {wA : World} (hA : Only Non w wA) {v' : Value}
    (hrow' : Row 26 w2 v' ((rows.getD j []).eraseIdx i)) (hgrow : Only (ownB (vs.getD j undef)) wA w2) (hown' : ∀ k, ownB v' k → ownB (vs.getD j undef) k ∨ wA.heap.size ≤ k) {wb : Nat} (hwb : ownB hv wb) :
    NetPost T base nb F H (c.set j ((c.row j).eraseIdx i)) w (w2.setCell ⟨wb, j, none⟩ v') := by
  obtain ⟨s1, s2, s3⟩ := h.sep hj
  have ho : Only (ownB (vs.getD j undef)) w w2 := (hA.mono fun _ h => h.elim).trans hgrow
  have z2 := hA.size
  have z3 := hgrow.size
  have fF : ∀ k, ownB (vs.getD j undef) k → F k := fun k hk => (h.foot k).2 (.inr (.inr ⟨j, hj, hk⟩))
  have hlen := h.clen j hj
  have h400 := h.c400 j hj
  have le1 : ((c.row j).eraseIdx i).length = (c.row j).length - 1 := List.length_eraseIdx_of_lt hi
  refine h.update (H' := H) hj hbase ho hwb (Only.setCell (S := Just wb) (p := ⟨wb, j, none⟩) (Only.refl _ _) (.inl rfl) _) ((h.top.only ho s2).store hj v' hwb) hrow' (fun k hk => (hown' k hk).imp id fun h => by omega) ?_ ?_ (fun k hk => hk) (fun k hk => .inl hk) ?_ ?_
  · rw [le1, List.length_eraseIdx_of_lt (by omega), hlen]
  · omega
  · intro k hk
    have := h.hbox k hk
    exact ⟨by omega, this.2.imp id fun ⟨cs, hb⟩ => ⟨cs, ho.box hb fun e => h.fh (fF k e) hk⟩⟩
  · intro a ha
    rw [le1] at ha
    rw [getD_erase, getD_erase]
    split
    · have hf := h.fr j a hj (by omega)
      exact ⟨hf.1.only ho fun k hk e => h.fh (fF k e) (hf.2 k hk), hf.2⟩
    · have hf := h.fr j (a + 1) hj (by omega)
      exact ⟨hf.1.only ho fun k hk e => h.fh (fF k e) (hf.2 k hk), hf.2⟩
end

def TakePost (base nb : Nat) (F H : Nat → Prop) (c : Cont) (j i : Nat) (w : World) (e : Ending) (w' : World) : Prop :=
  ∃ v, e = .returned (.tuple #[v, .int .i64 0]) ∧ Byt w' v ((c.row j).getD i []) ∧ (∀ k, ownB v k → k < w.heap.size ∧ ¬ F k ∧ H k) ∧ NetPost 75 base nb F H (c.set j ((c.row j).eraseIdx i)) w w'
section
set_option maxHeartbeats 2000000
theorem ntake_no (p : Option Addr) (way i err : Int) (w : World) (herr : err ≠ 0) (ht : Calls Try.prog 43 #[.pointer p, .int .i64 way, .int .i64 i] w fun e w' => e = .returned (.int .i64 err) ∧ w = w') :
    Calls Try.prog 15 #[.pointer p, .int .i64 way, .int .i64 i] w fun e w' => e = .returned (.tuple #[.slice none 0 0, .int .i64 err]) ∧ w = w' := by
  have H := Lib.hid ht; clear ht
  have he : (err != 0) = true := by simp [herr]
  clear herr
  go_enter Try.func15, Try.ntmps15
  go_wp2_with (go_at_call 43; refine H.out.mono ?_; rintro e w' ⟨rfl, rfl⟩)
  go_ret2
  exact ⟨rfl, rfl⟩
theorem ntake_yes (base nb : Nat) (F H : Nat → Prop) (c : Cont) (way i : Int) (w : World) (h : NetIs 75 w base nb F H c) (hbase : base ≤ w.heap.size) (hb : hasC c way i = true) :
    Calls Try.prog 15 #[.pointer (some ⟨nb, 0, none⟩), .int .i64 way, .int .i64 i] w (TakePost base nb F H c way.toNat i.toNat w) := by
  have ht := nwrong_any nb base F H c way i w h
  rw [hb] at ht
  have Ht := Lib.hid ht; clear ht
  simp only [hasC, thereC, Bool.and_eq_true, decide_eq_true_eq] at hb
  obtain ⟨⟨⟨hw0, hw1⟩, hi0⟩, hi1⟩ := hb
  obtain ⟨hv1, vs1, rows1, hA⟩ := h
  have hjv : way.toNat < vs1.length := by rw [← hA.nc]; omega
  obtain ⟨wb1, cp1, A1, cq1, ehv, n0, ev, n1, nf, hq1, hq2⟩ := hA.way hjv
  obtain ⟨sep1, sep2, sep3⟩ := hA.sep hjv
  have hown1 : ownB hv1 wb1 := by rw [ehv]; exact ownB_slice.2 rfl
  have hrowA := hA.row _ hjv
  have hrl := hA.clen _ hjv
  have h400 := hA.c400 _ hjv
  have hfr := hA.fr _ i.toNat hjv (by omega)
  have hflt := fun k (hk : ownB ((rows1.getD way.toNat []).getD i.toNat undef) k) => And.intro (hA.hbox k (hfr.2 k hk)).1 (And.intro (fun hf => hA.fh hf (hfr.2 k hk)) (hfr.2 k hk))
  rw [ev] at sep1 sep2 hrowA
  have hne : nb ≠ wb1 := sep3 wb1 hown1
  have Ht1 := Lib.hid (sep2 wb1 hown1)
  have Ht2 := Lib.hid sep1
  have HA := Lib.hid hA
  have Hev := Lib.hid ev
  have Hrl := Lib.hid hrl
  have Hown1 := Lib.hid hown1
  have Hfr := Lib.hid hfr
  have Hflt := Lib.hid hflt
  have hvl := hA.nc
  have hvl32 := hA.c32
  rw [hvl] at hw1 hvl32
  clear hrl ehv sep1 sep2 sep3 hA ev hown1 hfr hflt hvl
  generalize hrv : rows1.getD way.toNat [] = rowv at *
  have Hrv := Lib.hid hrv; clear hrv
  generalize hm : (c.row way.toNat).length = m at *
  have Hm := Lib.hid hm; clear hm
  have hul : i.toNat < rowv.length := by rw [Hrl.out]; omega
  obtain ⟨g, c9, eg, hcut⟩ := hrowA.cut hul
  obtain ⟨g2, c8, eg2, hcell, _⟩ := hrowA.cell (i := i.toNat) (u := rowv.getD i.toNat undef) (by simp [hul])
  have eA : A1 = some ⟨g, 0, none⟩ := by injection eg
  have eA2 : A1 = some ⟨g2, 0, none⟩ := by injection eg2
  rw [eA] at eA2
  injection eA2 with eA2
  injection eA2 with eA2
  subst eA2 eA
  have hsrc := hrowA.srcOf.2
  have Hcut := Lib.hid hcut
  clear eg eg2 hcut hrowA
  unfold maxLen at hq2
  generalize hff : rowv.getD i.toNat undef = f at *
  have Hff := Lib.hid hff; clear hff
  obtain ⟨A', hif, hsrcA⟩ : ∃ A', (if cq1 = i.toNat + 1 then some (⟨g, 0, none⟩ : Addr) else some ⟨g, i.toNat + 1, none⟩) = A' ∧ Src w A' (rowv.drop (i.toNat + 1)) := by
    refine ⟨_, rfl, ?_⟩
    split
    · rw [List.drop_eq_nil_of_le (by rw [Hrl.out]; omega)]; exact Src.nil_ _ _
    · exact hsrc.drop _
  have Hsrc := Lib.hid (hsrcA.only (Only.drew (Only.refl Non w)) fun _ _ _ _ => id)
  have Hcut2 := Lib.hid (Hcut.out.only (Only.drew (Only.refl Non w)) fun _ _ => id)
  have hone0 := HA.out.one hjv
  rw [Hrv.out] at hone0
  have Hone := Lib.hid (show ∀ u ∈ rowv.drop (i.toNat + 1), u.oneCell' = true from fun u hu => hone0 u (List.mem_of_mem_drop hu))
  clear hone0
  have Q0 := Lib.hid (show m - (i.toNat + 1) = (rowv.drop (i.toNat + 1)).length from by rw [List.length_drop, Hrl.out])
  have Q1 := Lib.hid (show (rowv.take i.toNat).length + (rowv.drop (i.toNat + 1)).length ≤ maxLen from by rw [List.length_drop, List.length_take, Hrl.out]; unfold maxLen; omega)
  have Q2 := Lib.hid (show ((rowv.take i.toNat).length + (rowv.drop (i.toNat + 1)).length) * 24 ≤ 140737488355328 from by rw [List.length_drop, List.length_take, Hrl.out]; omega)
  clear hsrc hsrcA
  go_enter Try.func15, Try.ntmps15
  go_wp2_with (go_at_call 43; refine Ht.out.mono ?_; rintro e w' ⟨rfl, rfl⟩)
  simp only [wrongN, if_true]
  go_wp2
  have b1 : i ≤ (cq1 : Int) := by omega
  have b2 : i ≤ max i 0 := by omega
  have b4 : 0 ≤ i + 1 := by omega
  have b5 : i + 1 ≤ (m : Int) := by omega
  have b6 : (i + 1).toNat = i.toNat + 1 := by omega
  have b3 : IntKind.i64.wrap (i + 1) = i + 1 := IntWalk.i64_in _ (by omega)
  refine wp_region_tail (S := fun w' => w'.cell? ⟨nb, 0, none⟩ = some (.slice (some ⟨wb1, 0, none⟩) vs1.length cp1)) 14 (by kernel_rfl) (by kernel_rfl) ?_ ?_
  · first | go_keep | assumption
  intro hSS
  refine wpHd_take (i := 0) (v := ?_) (by kernel_rfl) rfl (by kernel_rfl) (fun _ _ _ h => h) (Or.inl ⟨by rfl, ?_⟩) (by assumption) ?_
  rotate_left
  · intro w hSw; (try dsimp only at hSw); go_simp; (try with_reducible rfl)
  try simp only [Act.put, List.getElem_toArray, List.getElem_cons_succ, List.getElem_cons_zero, List.setIfInBounds_toArray, List.set_cons_zero, List.set_cons_succ]
  refine wpHd_take (i := 1) (v := ?_) (by kernel_rfl) rfl (by kernel_rfl) (fun _ _ _ h => h) (Or.inl ⟨by rfl, ?_⟩) (by assumption) ?_
  rotate_left
  · intro w hSw; (try dsimp only at hSw); go_simp; (try with_reducible rfl)
  try simp only [Act.put, List.getElem_toArray, List.getElem_cons_succ, List.getElem_cons_zero, List.setIfInBounds_toArray, List.set_cons_zero, List.set_cons_succ]
  refine wpHd_take (i := 2) (v := ?_) (by kernel_rfl) rfl (by kernel_rfl) (fun _ _ _ h => h) (Or.inl ⟨by rfl, ?_⟩) (by assumption) ?_
  rotate_left
  · intro w hSw; (try dsimp only at hSw); go_simp; (try with_reducible rfl)
  try simp only [Act.put, List.getElem_toArray, List.getElem_cons_succ, List.getElem_cons_zero, List.setIfInBounds_toArray, List.set_cons_zero, List.set_cons_succ]
  refine wpHd_take (i := 3) (v := ?_) (by kernel_rfl) rfl (by kernel_rfl) (fun _ _ _ h => h) (Or.inl ⟨by rfl, ?_⟩) (by assumption) ?_
  rotate_left
  · intro w hSw; (try dsimp only at hSw); go_simp; (try with_reducible rfl)
  try simp only [Act.put, List.getElem_toArray, List.getElem_cons_succ, List.getElem_cons_zero, List.setIfInBounds_toArray, List.set_cons_zero, List.set_cons_succ]
  refine wpHd_take (i := 4) (v := ?_) (by kernel_rfl) rfl (by kernel_rfl) (fun _ _ _ h => h) (Or.inl ⟨by rfl, ?_⟩) (by assumption) ?_
  rotate_left
  · intro w hSw; (try dsimp only at hSw); go_simp; (try with_reducible rfl)
  try simp only [Act.put, List.getElem_toArray, List.getElem_cons_succ, List.getElem_cons_zero, List.setIfInBounds_toArray, List.set_cons_zero, List.set_cons_succ]
  refine wpHd_take (i := 5) (v := ?_) (by kernel_rfl) rfl (by kernel_rfl) (fun _ _ _ h => h) (Or.inl ⟨by rfl, ?_⟩) (by assumption) ?_
  rotate_left
  · intro w hSw; (try dsimp only at hSw); go_simp; (try with_reducible rfl)
  try simp only [Act.put, List.getElem_toArray, List.getElem_cons_succ, List.getElem_cons_zero, List.setIfInBounds_toArray, List.set_cons_zero, List.set_cons_succ]
  refine wpHd_take (i := 6) (v := ?_) (by kernel_rfl) rfl (by kernel_rfl) (fun _ _ _ h => h) (Or.inl ⟨by rfl, ?_⟩) (by assumption) ?_
  rotate_left
  · intro w hSw; (try dsimp only at hSw); go_simp; (try with_reducible rfl)
  try simp only [Act.put, List.getElem_toArray, List.getElem_cons_succ, List.getElem_cons_zero, List.setIfInBounds_toArray, List.set_cons_zero, List.set_cons_succ]
  refine wpHd_take (i := 7) (v := ?_) (by kernel_rfl) rfl (by kernel_rfl) (fun _ _ _ h => h) (Or.inl ⟨by rfl, ?_⟩) (by assumption) ?_
  rotate_left
  · intro w hSw; (try dsimp only at hSw); go_simp; (try with_reducible rfl)
  try simp only [Act.put, List.getElem_toArray, List.getElem_cons_succ, List.getElem_cons_zero, List.setIfInBounds_toArray, List.set_cons_zero, List.set_cons_succ]
  refine wpHd_take (i := 8) (v := ?_) (by kernel_rfl) rfl (by kernel_rfl) (fun _ _ _ h => h) (Or.inl ⟨by rfl, ?_⟩) (by assumption) ?_
  rotate_left
  · intro w hSw; (try dsimp only at hSw); go_simp; (try with_reducible rfl)
  try simp only [Act.put, List.getElem_toArray, List.getElem_cons_succ, List.getElem_cons_zero, List.setIfInBounds_toArray, List.set_cons_zero, List.set_cons_succ]
  refine wpHd_take (i := 9) (v := ?_) (by kernel_rfl) rfl (by kernel_rfl) (fun _ _ _ h => h) (Or.inl ⟨by rfl, ?_⟩) (by assumption) ?_
  rotate_left
  · intro w hSw; (try dsimp only at hSw); go_simp; (try with_reducible rfl)
  try simp only [Act.put, List.getElem_toArray, List.getElem_cons_succ, List.getElem_cons_zero, List.setIfInBounds_toArray, List.set_cons_zero, List.set_cons_succ]
  refine wpHd_take (i := 10) (v := ?_) (by kernel_rfl) rfl (by kernel_rfl) (fun _ _ _ h => h) (Or.inl ⟨by rfl, ?_⟩) (by assumption) ?_
  rotate_left
  · intro w hSw; (try dsimp only at hSw); go_simp; (try with_reducible rfl)
  try simp only [Act.put, List.getElem_toArray, List.getElem_cons_succ, List.getElem_cons_zero, List.setIfInBounds_toArray, List.set_cons_zero, List.set_cons_succ]
  refine wpHd_take (i := 11) (v := ?_) (by kernel_rfl) rfl (by kernel_rfl) (fun _ _ _ h => h) (Or.inl ⟨by rfl, ?_⟩) (by assumption) ?_
  rotate_left
  · intro w hSw; (try dsimp only at hSw); go_simp; (try with_reducible rfl)
  try simp only [Act.put, List.getElem_toArray, List.getElem_cons_succ, List.getElem_cons_zero, List.setIfInBounds_toArray, List.set_cons_zero, List.set_cons_succ]
  refine wpHd_take (i := 12) (v := ?_) (by kernel_rfl) rfl (by kernel_rfl) (fun _ _ _ h => h) (Or.inl ⟨by rfl, ?_⟩) (by assumption) ?_
  rotate_left
  · intro w hSw; (try dsimp only at hSw); go_simp; (try with_reducible rfl)
  try simp only [Act.put, List.getElem_toArray, List.getElem_cons_succ, List.getElem_cons_zero, List.setIfInBounds_toArray, List.set_cons_zero, List.set_cons_succ]
  refine wpHd_one (i := 13) rfl (by kernel_rfl) (fun K hK => ?_)
  refine step_append_row _ (by rfl) _ _ 22 26 (by rfl) frameInfo (by rfl) Try.underlying22 (.slice (some ⟨g, 0, none⟩) i.toNat i.toNat) (rowv.take i.toNat) (by rfl) Hcut2.out A' (m - (i.toNat + 1)) (cq1 - (i.toNat + 1)) (rowv.drop (i.toNat + 1)) (by rfl) Q0.out Hsrc.out Hone.out Q1.out Q2.out ?_
  intro v2 w2 hrow2 hgrow2 hown2 _
  rw [← List.eraseIdx_eq_take_drop_succ] at hrow2
  obtain ⟨A2, c2, hv2, hs1, hs2⟩ := hrow2.shape
  have Hrow2 := Lib.hid hrow2
  have Hgrow2 := Lib.hid (show Only (ownB (.slice (some ⟨g, 0, none⟩) m cq1)) w.drew w2 from hgrow2)
  have Hown2 := Lib.hid (show ∀ k, ownB v2 k → ownB (.slice (some ⟨g, 0, none⟩) m cq1) k ∨ w.drew.heap.size ≤ k from hown2)
  have m0 := Hgrow2.out.cell (a := w.drew) n0 Ht2.out
  have m1 := Hgrow2.out.cell (a := w.drew) n1 Ht1.out
  have m2 := Hgrow2.out.free (w := w.drew) n1 Ht1.out nf
  clear hs1 hs2 hrow2 hgrow2 hown2
  generalize (rowv.eraseIdx i.toNat).length = ne at *
  subst hv2
  refine hK.out _ _ ?_ (fun hSS => ?_)
  · first | go_keep | assumption
  clear hK
  try simp only [Act.put, List.getElem_toArray, List.getElem_cons_succ, List.getElem_cons_zero, List.setIfInBounds_toArray, List.set_cons_zero, List.set_cons_succ]
  refine wpHd_end (by kernel_rfl) ?_
  clear hSS hif b1 b2 b3 b4 b5 b6
  go_wp2
  have hnp : NetPost 75 base nb F H (c.set way.toNat ((c.row way.toNat).eraseIdx i.toNat)) w (w2.setCell ⟨wb1, way.toNat, none⟩ (.slice A2 ne c2)) := by
    refine HA.out.erase (wA := w.drew) hjv hbase (by rw [Hm.out]; omega) (Only.refl _ _).drew ?_ ?_ ?_ Hown1.out
    · rw [Hrv.out]; exact Hrow2.out
    · rw [Hev.out]; exact Hgrow2.out
    · rw [Hev.out]; exact Hown2.out
  have Hnp := Lib.hid hnp
  clear hnp
  go_ret2
  obtain ⟨F', H', p1, p2, p3, p4⟩ := Hnp.out
  refine ⟨f, rfl, ?_, ?_, F', H', p1, p2, p3, p4⟩
  · exact Hfr.out.1.only p4 fun k hk => (Hflt.out k hk).2.1
  · exact Hflt.out
end
end Go.Proofs.Ytlagccfllnhgbaa
