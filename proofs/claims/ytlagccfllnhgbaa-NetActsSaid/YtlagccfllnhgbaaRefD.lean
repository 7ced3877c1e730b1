/- The document's net: Do, Take and Lose. -/
import Derived.Test.YtlagccfllnhgbaaRefC
namespace Go.Proofs.Ytlagccfllnhgbaa
open Go.RowKit
set_option linter.unusedVariables false
set_option linter.unusedSimpArgs false
section
set_option maxHeartbeats 4000000
set_option maxRecDepth 100000
theorem rdo_1 (base nb : Nat) (F H : Nat → Prop) (c : Cont) (way i k : Int) (A : Option Addr) (nl cp : Nat) (w : World) (h : NetIs 52 w base nb F H c) (hbase : base ≤ w.heap.size) (hb : hasC c way i = true) :
    Calls Try.prog 24 #[.pointer (some ⟨nb, 0, none⟩), actV 1 way i k (.slice A nl cp)] w (RDoPost base nb F H ⟨c.set way.toNat ((c.row way.toNat).eraseIdx i.toNat), 0, (c.row way.toNat).getD i.toNat [], 0⟩ w) := by
  have hal := boxed_only w 1 way i k A nl cp
  have HR := Lib.hid fun m => rhas_any nb base F H c way i _ (h.keep (hal.drewN m))
  rw [hb] at HR
  simp only [hasC, thereC, Bool.and_eq_true, decide_eq_true_eq] at hb
  obtain ⟨⟨⟨hw0, hw1⟩, hi0⟩, hi1⟩ := hb
  obtain ⟨hv, vs, rows, hA⟩ := h
  have hj : way.toNat < vs.length := by rw [← hA.nc]; omega
  obtain ⟨wb, cpn, A1, cq, ehv, n0, ev, n1, nf, hq1, hq2⟩ := hA.way hj
  obtain ⟨sep1, sep2, sep3⟩ := hA.sep hj
  have hown1 : ownB hv wb := by rw [ehv]; exact ownB_slice.2 rfl
  have hrow := hA.row _ hj
  have hrl := hA.clen _ hj
  have h400 := hA.c400 _ hj
  have hone := hA.one hj
  have hfr := hA.fr _ i.toNat hj (by omega)
  have Hvk := Lib.hid (show ∀ x, ownB ((rows.getD way.toNat []).getD i.toNat undef) x → H x ∧ ¬ F x from fun x hx => ⟨hfr.2 x hx, fun hf => hA.fh hf (hfr.2 x hx)⟩)
  rw [ev] at sep1 sep2 hrow
  have hne : nb ≠ wb := sep3 wb hown1
  have Hsep2 := Lib.hid (sep2 wb hown1)
  have Hsep1 := Lib.hid sep1
  have HA := Lib.hid hA
  have Hev := Lib.hid ev
  have Hrl := Lib.hid hrl
  have Hown1 := Lib.hid hown1
  have Hfr := Lib.hid hfr
  have hvl := hA.nc
  have hn : vs.length ≤ 32 := by rw [← hA.nc]; exact hA.c32
  rw [hvl] at hw1
  clear hrl ehv sep1 sep2 sep3 hA ev hown1 hfr hvl
  generalize hrv : rows.getD way.toNat [] = rowv at *
  have Hrv := Lib.hid hrv; clear hrv
  generalize hm : (c.row way.toNat).length = m at *
  have Hm := Lib.hid hm; clear hm
  have hul : i.toNat < rowv.length := by rw [Hrl.out]; omega
  obtain ⟨g, c8, eg, hcell, _⟩ := hrow.cell (i := i.toNat) (u := rowv.getD i.toNat undef) (by simp [hul])
  have eA : A1 = some ⟨g, 0, none⟩ := by injection eg
  subst eA
  have Hat := Lib.hid (show rowv[i.toNat]? = some (rowv.getD i.toNat undef) from by simp [hul])
  clear eg
  generalize hff : rowv.getD i.toNat undef = f at *
  have Hff := Lib.hid hff; clear hff
  unfold maxLen at hq2
  have n0' := hal.cell n0 id
  have n1' := hal.cell n1 id
  have nf' := hal.free n1 id nf
  have hcell' := hal.cell hcell id
  obtain ⟨b0, b1, b2, b3, b4⟩ := boxed_act w 1 way i k A nl cp
  have Hal := Lib.hid hal
  have Hrow := Lib.hid hrow
  have Hone := Lib.hid hone
  have HWo := Lib.hid fun w' (ho : Only Non w w') => without_any _ _ i w' (hrow.only ho fun _ _ => id) hone (by rw [Hrl.out]; exact h400) hi0 (by rw [Hrl.out]; exact hi1)
  have Hn1 := Lib.hid n1
  have Hnf := Lib.hid nf
  have Hn0 := Lib.hid n0
  have Hcell := Lib.hid hcell
  unfold actV
  unfold boxed at *
  clear hal n0 n1 nf hcell hrow hone
  go_enter Try.func24, Try.ntmps24
  go_wp2_with fail
  generalize w.alloc (.cells #[.int .i64 1, .int .i64 way, .int .i64 i, .int .i64 k, .slice A nl cp] 39) = W at *
  go_quiet (fail)
  go_wp2_with fail
  refine (HR.out _).mono ?_
  rintro e w' ⟨rfl, rfl⟩
  go_wp2_with fail
  go_region
  go_wp2_with fail
  refine wp_region_tail (S := fun w' => w'.cell? ⟨nb, 0, none⟩ = some (.slice (some ⟨wb, 0, none⟩) vs.length cpn) ∧ w'.cell? ⟨w.heap.size, 1, none⟩ = some (.int .i64 way) ∧ w'.cell? ⟨w.heap.size, 2, none⟩ = some (.int .i64 i)) 10 (by kernel_rfl) (by kernel_rfl) ?_ ?_
  · first | go_keep | (refine ⟨?_, ?_, ?_⟩ <;> first | assumption | (simp [*]; done))
  intro hSS
  refine wpHd_take (i := 0) (v := ?_) (by kernel_rfl) rfl (by kernel_rfl) (fun _ _ _ h => h) (Or.inl ⟨by rfl, ?_⟩) (by assumption) ?_
  rotate_left
  · intro w hSw; (try dsimp only at hSw); go_simp; (try with_reducible rfl)
  try simp only [Act.put, List.getElem_toArray, List.getElem_cons_succ, List.getElem_cons_zero, List.setIfInBounds_toArray, List.set_cons_zero, List.set_cons_succ]
  refine wpHd_take (i := 1) (v := ?_) (by kernel_rfl) rfl (by kernel_rfl) (fun _ _ _ h => h) (Or.inl ⟨by rfl, ?_⟩) (by assumption) ?_
  rotate_left
  · intro w hSw; (try dsimp only at hSw); go_simp; (try with_reducible rfl)
  try simp only [Act.put, List.getElem_toArray, List.getElem_cons_succ, List.getElem_cons_zero, List.setIfInBounds_toArray, List.set_cons_zero, List.set_cons_succ]
  refine wpHd_take (i := 2) (v := ?_) (by kernel_rfl) rfl (by kernel_rfl) (fun _ _ _ h => h) (Or.inl ⟨by rfl, ?_⟩) (by assumption) ?_
  rotate_left
  · intro w hSw; (try dsimp only at hSw); go_simp; (try with_reducible rfl)
  try simp only [Act.put, List.getElem_toArray, List.getElem_cons_succ, List.getElem_cons_zero, List.setIfInBounds_toArray, List.set_cons_zero, List.set_cons_succ]
  refine wpHd_take (i := 3) (v := ?_) (by kernel_rfl) rfl (by kernel_rfl) (fun _ _ _ h => h) (Or.inl ⟨by rfl, ?_⟩) (by assumption) ?_
  rotate_left
  · intro w hSw; (try dsimp only at hSw); go_simp; (try with_reducible rfl)
  try simp only [Act.put, List.getElem_toArray, List.getElem_cons_succ, List.getElem_cons_zero, List.setIfInBounds_toArray, List.set_cons_zero, List.set_cons_succ]
  refine wpHd_take (i := 4) (v := ?_) (by kernel_rfl) rfl (by kernel_rfl) (fun _ _ _ h => h) (Or.inl ⟨by rfl, ?_⟩) (by assumption) ?_
  rotate_left
  · intro w hSw; (try dsimp only at hSw); go_simp; (try with_reducible rfl)
  try simp only [Act.put, List.getElem_toArray, List.getElem_cons_succ, List.getElem_cons_zero, List.setIfInBounds_toArray, List.set_cons_zero, List.set_cons_succ]
  refine wpHd_take (i := 5) (v := ?_) (by kernel_rfl) rfl (by kernel_rfl) (fun _ _ _ h => h) (Or.inl ⟨by rfl, ?_⟩) (by assumption) ?_
  rotate_left
  · intro w hSw; (try dsimp only at hSw); go_simp; (try with_reducible rfl)
  try simp only [Act.put, List.getElem_toArray, List.getElem_cons_succ, List.getElem_cons_zero, List.setIfInBounds_toArray, List.set_cons_zero, List.set_cons_succ]
  refine wpHd_take (i := 6) (v := ?_) (by kernel_rfl) rfl (by kernel_rfl) (fun _ _ _ h => h) (Or.inl ⟨by rfl, ?_⟩) (by assumption) ?_
  rotate_left
  · intro w hSw; (try dsimp only at hSw); go_simp; (try with_reducible rfl)
  try simp only [Act.put, List.getElem_toArray, List.getElem_cons_succ, List.getElem_cons_zero, List.setIfInBounds_toArray, List.set_cons_zero, List.set_cons_succ]
  refine wpHd_take (i := 7) (v := ?_) (by kernel_rfl) rfl (by kernel_rfl) (fun _ _ _ h => h) (Or.inl ⟨by rfl, ?_⟩) (by assumption) ?_
  rotate_left
  · intro w hSw; (try dsimp only at hSw); go_simp; (try with_reducible rfl)
  try simp only [Act.put, List.getElem_toArray, List.getElem_cons_succ, List.getElem_cons_zero, List.setIfInBounds_toArray, List.set_cons_zero, List.set_cons_succ]
  refine wpHd_take (i := 8) (v := ?_) (by kernel_rfl) rfl (by kernel_rfl) (fun _ _ _ h => h) (Or.inl ⟨by rfl, ?_⟩) (by assumption) ?_
  rotate_left
  · intro w hSw; (try dsimp only at hSw); go_simp; (try with_reducible rfl)
  try simp only [Act.put, List.getElem_toArray, List.getElem_cons_succ, List.getElem_cons_zero, List.setIfInBounds_toArray, List.set_cons_zero, List.set_cons_succ]
  refine wpHd_one (i := 9) rfl (by kernel_rfl) (fun K hK => ?_)
  go_simp
  refine (HWo.out _ (by first | exact Hal.out.drewN _ | exact (Hal.out.drewN _).drew | exact ((Hal.out.drewN _).drewN _).drew)).mono ?_
  rintro e w1 ⟨v', rfl, hrow', hgrow', hnew'⟩
  have Hgrow' := Lib.hid hgrow'
  have hgW : Only Non w w1 := by first | exact (Hal.out.drewN _).trans hgrow' | exact ((Hal.out.drewN _).drew).trans hgrow' | exact (((Hal.out.drewN _).drewN _).drew).trans hgrow'
  obtain ⟨A2, c2, hv2, hs1, hs2⟩ := hrow'.shape
  have Hrow' := Lib.hid hrow'
  have Hnew' := Lib.hid hnew'
  have HgW := Lib.hid hgW
  have m0 := hgW.cell Hn0.out id
  have m1 := hgW.cell Hn1.out id
  have m2 := hgW.free Hn1.out id Hnf.out
  have q1 := hgrow'.cell (p := ⟨w.heap.size, 1, none⟩) (v := .int .i64 way) (by assumption) id
  have q2 := hgrow'.cell (p := ⟨w.heap.size, 2, none⟩) (v := .int .i64 i) (by assumption) id
  clear hs1 hs2 hrow' hgrow' hnew' hgW
  generalize (rowv.eraseIdx i.toNat).length = ne at *
  subst hv2
  refine hK.out _ _ ?_ (fun hSS => ?_)
  · first | go_keep | (refine ⟨?_, ?_, ?_⟩ <;> first | assumption | (simp [*]; done))
  clear hK
  try simp only [Act.put, List.getElem_toArray, List.getElem_cons_succ, List.getElem_cons_zero, List.setIfInBounds_toArray, List.set_cons_zero, List.set_cons_succ]
  refine wpHd_end (by kernel_rfl) ?_
  clear hSS
  go_wp2_with fail
  have hnp : NetPost 52 base nb F H (c.set way.toNat ((c.row way.toNat).eraseIdx i.toNat)) w (w1.setCell ⟨wb, way.toNat, none⟩ (.slice A2 ne c2)) := by
    refine HA.out.erase (wA := w) hj hbase (by rw [Hm.out]; omega) (Only.refl _ _) ?_ (HgW.out.mono fun _ h => h.elim) ?_ Hown1.out
    · rw [Hrv.out]; exact Hrow'.out
    · exact fun x hx => .inr (Nat.le_trans (by first | exact Hal.out.size | exact (Hal.out.drewN _).size) (Hnew'.out x hx))
  have Hnp := Lib.hid hnp
  clear hnp
  go_ret3
  refine ⟨_, rfl, ?_, fun x hx => Hvk.out x hx, Hnp.out⟩
  obtain ⟨F1, H1, _, _, _, h4⟩ := Hnp.out
  exact Hfr.out.1.only h4 fun x hx => (Hvk.out x hx).2
theorem rdo_3 (base nb : Nat) (F H : Nat → Prop) (c : Cont) (way i k : Int) (A : Option Addr) (nl cp : Nat) (w : World) (h : NetIs 52 w base nb F H c) (hbase : base ≤ w.heap.size) (hb : hasC c way i = true) :
    Calls Try.prog 24 #[.pointer (some ⟨nb, 0, none⟩), actV 3 way i k (.slice A nl cp)] w (RDoPost base nb F H ⟨c.set way.toNat ((c.row way.toNat).eraseIdx i.toNat), 0, [], 0⟩ w) := by
  have hal := boxed_only w 3 way i k A nl cp
  have HR := Lib.hid fun m => rhas_any nb base F H c way i _ (h.keep (hal.drewN m))
  rw [hb] at HR
  simp only [hasC, thereC, Bool.and_eq_true, decide_eq_true_eq] at hb
  obtain ⟨⟨⟨hw0, hw1⟩, hi0⟩, hi1⟩ := hb
  obtain ⟨hv, vs, rows, hA⟩ := h
  have hj : way.toNat < vs.length := by rw [← hA.nc]; omega
  obtain ⟨wb, cpn, A1, cq, ehv, n0, ev, n1, nf, hq1, hq2⟩ := hA.way hj
  obtain ⟨sep1, sep2, sep3⟩ := hA.sep hj
  have hown1 : ownB hv wb := by rw [ehv]; exact ownB_slice.2 rfl
  have hrow := hA.row _ hj
  have hrl := hA.clen _ hj
  have h400 := hA.c400 _ hj
  have hone := hA.one hj
  have hfr := hA.fr _ i.toNat hj (by omega)
  have Hvk := Lib.hid (show ∀ x, ownB ((rows.getD way.toNat []).getD i.toNat undef) x → H x ∧ ¬ F x from fun x hx => ⟨hfr.2 x hx, fun hf => hA.fh hf (hfr.2 x hx)⟩)
  rw [ev] at sep1 sep2 hrow
  have hne : nb ≠ wb := sep3 wb hown1
  have Hsep2 := Lib.hid (sep2 wb hown1)
  have Hsep1 := Lib.hid sep1
  have HA := Lib.hid hA
  have Hev := Lib.hid ev
  have Hrl := Lib.hid hrl
  have Hown1 := Lib.hid hown1
  have Hfr := Lib.hid hfr
  have hvl := hA.nc
  have hn : vs.length ≤ 32 := by rw [← hA.nc]; exact hA.c32
  rw [hvl] at hw1
  clear hrl ehv sep1 sep2 sep3 hA ev hown1 hfr hvl
  generalize hrv : rows.getD way.toNat [] = rowv at *
  have Hrv := Lib.hid hrv; clear hrv
  generalize hm : (c.row way.toNat).length = m at *
  have Hm := Lib.hid hm; clear hm
  have hul : i.toNat < rowv.length := by rw [Hrl.out]; omega
  obtain ⟨g, c8, eg, hcell, _⟩ := hrow.cell (i := i.toNat) (u := rowv.getD i.toNat undef) (by simp [hul])
  have eA : A1 = some ⟨g, 0, none⟩ := by injection eg
  subst eA
  have Hat := Lib.hid (show rowv[i.toNat]? = some (rowv.getD i.toNat undef) from by simp [hul])
  clear eg
  generalize hff : rowv.getD i.toNat undef = f at *
  have Hff := Lib.hid hff; clear hff
  unfold maxLen at hq2
  have n0' := hal.cell n0 id
  have n1' := hal.cell n1 id
  have nf' := hal.free n1 id nf
  have hcell' := hal.cell hcell id
  obtain ⟨b0, b1, b2, b3, b4⟩ := boxed_act w 3 way i k A nl cp
  have Hal := Lib.hid hal
  have Hrow := Lib.hid hrow
  have Hone := Lib.hid hone
  have HWo := Lib.hid fun w' (ho : Only Non w w') => without_any _ _ i w' (hrow.only ho fun _ _ => id) hone (by rw [Hrl.out]; exact h400) hi0 (by rw [Hrl.out]; exact hi1)
  have Hn1 := Lib.hid n1
  have Hnf := Lib.hid nf
  have Hn0 := Lib.hid n0
  have Hcell := Lib.hid hcell
  unfold actV
  unfold boxed at *
  clear hal n0 n1 nf hcell hrow hone
  go_enter Try.func24, Try.ntmps24
  go_wp2_with fail
  generalize w.alloc (.cells #[.int .i64 3, .int .i64 way, .int .i64 i, .int .i64 k, .slice A nl cp] 39) = W at *
  go_quiet (fail)
  go_wp2_with fail
  refine (HR.out _).mono ?_
  rintro e w' ⟨rfl, rfl⟩
  go_wp2_with fail
  go_region
  go_wp2_with fail
  refine wp_region_tail (S := fun w' => w'.cell? ⟨nb, 0, none⟩ = some (.slice (some ⟨wb, 0, none⟩) vs.length cpn) ∧ w'.cell? ⟨w.heap.size, 1, none⟩ = some (.int .i64 way) ∧ w'.cell? ⟨w.heap.size, 2, none⟩ = some (.int .i64 i)) 10 (by kernel_rfl) (by kernel_rfl) ?_ ?_
  · first | go_keep | (refine ⟨?_, ?_, ?_⟩ <;> first | assumption | (simp [*]; done))
  intro hSS
  refine wpHd_take (i := 0) (v := ?_) (by kernel_rfl) rfl (by kernel_rfl) (fun _ _ _ h => h) (Or.inl ⟨by rfl, ?_⟩) (by assumption) ?_
  rotate_left
  · intro w hSw; (try dsimp only at hSw); go_simp; (try with_reducible rfl)
  try simp only [Act.put, List.getElem_toArray, List.getElem_cons_succ, List.getElem_cons_zero, List.setIfInBounds_toArray, List.set_cons_zero, List.set_cons_succ]
  refine wpHd_take (i := 1) (v := ?_) (by kernel_rfl) rfl (by kernel_rfl) (fun _ _ _ h => h) (Or.inl ⟨by rfl, ?_⟩) (by assumption) ?_
  rotate_left
  · intro w hSw; (try dsimp only at hSw); go_simp; (try with_reducible rfl)
  try simp only [Act.put, List.getElem_toArray, List.getElem_cons_succ, List.getElem_cons_zero, List.setIfInBounds_toArray, List.set_cons_zero, List.set_cons_succ]
  refine wpHd_take (i := 2) (v := ?_) (by kernel_rfl) rfl (by kernel_rfl) (fun _ _ _ h => h) (Or.inl ⟨by rfl, ?_⟩) (by assumption) ?_
  rotate_left
  · intro w hSw; (try dsimp only at hSw); go_simp; (try with_reducible rfl)
  try simp only [Act.put, List.getElem_toArray, List.getElem_cons_succ, List.getElem_cons_zero, List.setIfInBounds_toArray, List.set_cons_zero, List.set_cons_succ]
  refine wpHd_take (i := 3) (v := ?_) (by kernel_rfl) rfl (by kernel_rfl) (fun _ _ _ h => h) (Or.inl ⟨by rfl, ?_⟩) (by assumption) ?_
  rotate_left
  · intro w hSw; (try dsimp only at hSw); go_simp; (try with_reducible rfl)
  try simp only [Act.put, List.getElem_toArray, List.getElem_cons_succ, List.getElem_cons_zero, List.setIfInBounds_toArray, List.set_cons_zero, List.set_cons_succ]
  refine wpHd_take (i := 4) (v := ?_) (by kernel_rfl) rfl (by kernel_rfl) (fun _ _ _ h => h) (Or.inl ⟨by rfl, ?_⟩) (by assumption) ?_
  rotate_left
  · intro w hSw; (try dsimp only at hSw); go_simp; (try with_reducible rfl)
  try simp only [Act.put, List.getElem_toArray, List.getElem_cons_succ, List.getElem_cons_zero, List.setIfInBounds_toArray, List.set_cons_zero, List.set_cons_succ]
  refine wpHd_take (i := 5) (v := ?_) (by kernel_rfl) rfl (by kernel_rfl) (fun _ _ _ h => h) (Or.inl ⟨by rfl, ?_⟩) (by assumption) ?_
  rotate_left
  · intro w hSw; (try dsimp only at hSw); go_simp; (try with_reducible rfl)
  try simp only [Act.put, List.getElem_toArray, List.getElem_cons_succ, List.getElem_cons_zero, List.setIfInBounds_toArray, List.set_cons_zero, List.set_cons_succ]
  refine wpHd_take (i := 6) (v := ?_) (by kernel_rfl) rfl (by kernel_rfl) (fun _ _ _ h => h) (Or.inl ⟨by rfl, ?_⟩) (by assumption) ?_
  rotate_left
  · intro w hSw; (try dsimp only at hSw); go_simp; (try with_reducible rfl)
  try simp only [Act.put, List.getElem_toArray, List.getElem_cons_succ, List.getElem_cons_zero, List.setIfInBounds_toArray, List.set_cons_zero, List.set_cons_succ]
  refine wpHd_take (i := 7) (v := ?_) (by kernel_rfl) rfl (by kernel_rfl) (fun _ _ _ h => h) (Or.inl ⟨by rfl, ?_⟩) (by assumption) ?_
  rotate_left
  · intro w hSw; (try dsimp only at hSw); go_simp; (try with_reducible rfl)
  try simp only [Act.put, List.getElem_toArray, List.getElem_cons_succ, List.getElem_cons_zero, List.setIfInBounds_toArray, List.set_cons_zero, List.set_cons_succ]
  refine wpHd_take (i := 8) (v := ?_) (by kernel_rfl) rfl (by kernel_rfl) (fun _ _ _ h => h) (Or.inl ⟨by rfl, ?_⟩) (by assumption) ?_
  rotate_left
  · intro w hSw; (try dsimp only at hSw); go_simp; (try with_reducible rfl)
  try simp only [Act.put, List.getElem_toArray, List.getElem_cons_succ, List.getElem_cons_zero, List.setIfInBounds_toArray, List.set_cons_zero, List.set_cons_succ]
  refine wpHd_one (i := 9) rfl (by kernel_rfl) (fun K hK => ?_)
  go_simp
  refine (HWo.out _ (by first | exact Hal.out.drewN _ | exact (Hal.out.drewN _).drew | exact ((Hal.out.drewN _).drewN _).drew)).mono ?_
  rintro e w1 ⟨v', rfl, hrow', hgrow', hnew'⟩
  have Hgrow' := Lib.hid hgrow'
  have hgW : Only Non w w1 := by first | exact (Hal.out.drewN _).trans hgrow' | exact ((Hal.out.drewN _).drew).trans hgrow' | exact (((Hal.out.drewN _).drewN _).drew).trans hgrow'
  obtain ⟨A2, c2, hv2, hs1, hs2⟩ := hrow'.shape
  have Hrow' := Lib.hid hrow'
  have Hnew' := Lib.hid hnew'
  have HgW := Lib.hid hgW
  have m0 := hgW.cell Hn0.out id
  have m1 := hgW.cell Hn1.out id
  have m2 := hgW.free Hn1.out id Hnf.out
  have q1 := hgrow'.cell (p := ⟨w.heap.size, 1, none⟩) (v := .int .i64 way) (by assumption) id
  have q2 := hgrow'.cell (p := ⟨w.heap.size, 2, none⟩) (v := .int .i64 i) (by assumption) id
  clear hs1 hs2 hrow' hgrow' hnew' hgW
  generalize (rowv.eraseIdx i.toNat).length = ne at *
  subst hv2
  refine hK.out _ _ ?_ (fun hSS => ?_)
  · first | go_keep | (refine ⟨?_, ?_, ?_⟩ <;> first | assumption | (simp [*]; done))
  clear hK
  try simp only [Act.put, List.getElem_toArray, List.getElem_cons_succ, List.getElem_cons_zero, List.setIfInBounds_toArray, List.set_cons_zero, List.set_cons_succ]
  refine wpHd_end (by kernel_rfl) ?_
  clear hSS
  go_wp2_with fail
  have hnp : NetPost 52 base nb F H (c.set way.toNat ((c.row way.toNat).eraseIdx i.toNat)) w (w1.setCell ⟨wb, way.toNat, none⟩ (.slice A2 ne c2)) := by
    refine HA.out.erase (wA := w) hj hbase (by rw [Hm.out]; omega) (Only.refl _ _) ?_ (HgW.out.mono fun _ h => h.elim) ?_ Hown1.out
    · rw [Hrv.out]; exact Hrow'.out
    · exact fun x hx => .inr (Nat.le_trans (by first | exact Hal.out.size | exact (Hal.out.drewN _).size) (Hnew'.out x hx))
  have Hnp := Lib.hid hnp
  clear hnp
  go_ret3
  exact RDoPost.no (s := 0) Hnp.out
end
end Go.Proofs.Ytlagccfllnhgbaa
