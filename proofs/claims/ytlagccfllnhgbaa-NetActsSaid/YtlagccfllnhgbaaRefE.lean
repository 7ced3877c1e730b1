/- The document's net: Do, Twice. -/
import Derived.Test.YtlagccfllnhgbaaRefD
namespace Go.Proofs.Ytlagccfllnhgbaa
open Go.RowKit
set_option linter.unusedVariables false
set_option linter.unusedSimpArgs false
section
set_option maxHeartbeats 4000000
set_option maxRecDepth 100000
theorem rdo_2full (base nb : Nat) (F H : Nat → Prop) (c : Cont) (way i k : Int) (A : Option Addr) (nl cp : Nat) (w : World) (h : NetIs 52 w base nb F H c) (hbase : base ≤ w.heap.size) (hb : hasC c way i = true) (hf : 400 ≤ (c.row way.toNat).length) :
    Calls Try.prog 24 #[.pointer (some ⟨nb, 0, none⟩), actV 2 way i k (.slice A nl cp)] w (RDoPost base nb F H ⟨c, 0, [], 4⟩ w) := by
  have hal := boxed_only w 2 way i k A nl cp
  have HR := Lib.hid fun m => rhas_any nb base F H c way i _ (h.keep (hal.drewN m))
  rw [hb] at HR
  simp only [hasC, thereC, Bool.and_eq_true, decide_eq_true_eq] at hb
  obtain ⟨⟨⟨hw0, hw1⟩, hi0⟩, hi1⟩ := hb
  obtain ⟨hv, vs, rows, hA⟩ := h
  have hj : way.toNat < vs.length := by rw [← hA.nc]; omega
  obtain ⟨wb, cpn, A1, cq, ehv, n0, ev, n1, nf, hq1, hq2⟩ := hA.way hj
  obtain ⟨sep1, sep2, sep3⟩ := hA.sep hj
  have hown1 : ownB hv wb := by rw [ehv]; exact ownB_slice.2 rfl
  have hrow := hA.row _ hj
  have hrl := hA.clen _ hj
  have h400 := hA.c400 _ hj
  have hone := hA.one hj
  have hfr := hA.fr _ i.toNat hj (by omega)
  have Hvk := Lib.hid (show ∀ x, ownB ((rows.getD way.toNat []).getD i.toNat undef) x → H x ∧ ¬ F x from fun x hx => ⟨hfr.2 x hx, fun hf => hA.fh hf (hfr.2 x hx)⟩)
  rw [ev] at sep1 sep2 hrow
  have hne : nb ≠ wb := sep3 wb hown1
  have Hsep2 := Lib.hid (sep2 wb hown1)
  have Hsep1 := Lib.hid sep1
  have HA := Lib.hid hA
  have Hev := Lib.hid ev
  have Hrl := Lib.hid hrl
  have Hown1 := Lib.hid hown1
  have Hfr := Lib.hid hfr
  have hvl := hA.nc
  have hn : vs.length ≤ 32 := by rw [← hA.nc]; exact hA.c32
  rw [hvl] at hw1
  clear hrl ehv sep1 sep2 sep3 hA ev hown1 hfr hvl
  generalize hrv : rows.getD way.toNat [] = rowv at *
  have Hrv := Lib.hid hrv; clear hrv
  generalize hm : (c.row way.toNat).length = m at *
  have Hm := Lib.hid hm; clear hm
  have hul : i.toNat < rowv.length := by rw [Hrl.out]; omega
  obtain ⟨g, c8, eg, hcell, _⟩ := hrow.cell (i := i.toNat) (u := rowv.getD i.toNat undef) (by simp [hul])
  have eA : A1 = some ⟨g, 0, none⟩ := by injection eg
  subst eA
  have Hat := Lib.hid (show rowv[i.toNat]? = some (rowv.getD i.toNat undef) from by simp [hul])
  clear eg
  generalize hff : rowv.getD i.toNat undef = f at *
  have Hff := Lib.hid hff; clear hff
  unfold maxLen at hq2
  have n0' := hal.cell n0 id
  have n1' := hal.cell n1 id
  have nf' := hal.free n1 id nf
  have hcell' := hal.cell hcell id
  obtain ⟨b0, b1, b2, b3, b4⟩ := boxed_act w 2 way i k A nl cp
  have Hal := Lib.hid hal
  have Hrow := Lib.hid hrow
  have Hone := Lib.hid hone
  have HWo := Lib.hid fun w' (ho : Only Non w w') => without_any _ _ i w' (hrow.only ho fun _ _ => id) hone (by rw [Hrl.out]; exact h400) hi0 (by rw [Hrl.out]; exact hi1)
  have Hn1 := Lib.hid n1
  have Hnf := Lib.hid nf
  have Hn0 := Lib.hid n0
  have Hcell := Lib.hid hcell
  unfold actV
  unfold boxed at *
  clear hal n0 n1 nf hcell hrow hone
  go_enter Try.func24, Try.ntmps24
  go_wp2_with fail
  generalize w.alloc (.cells #[.int .i64 2, .int .i64 way, .int .i64 i, .int .i64 k, .slice A nl cp] 39) = W at *
  go_quiet (fail)
  go_wp2_with fail
  refine (HR.out _).mono ?_
  rintro e w' ⟨rfl, rfl⟩
  go_wp2_with fail
  go_region
  go_wp2_with fail
  go_ret3
  exact RDoPost.no (s := 0) (.same ⟨hv, vs, rows, HA.out⟩ (by first | exact Hal.out.drewN _ | exact (Hal.out.drewN _).drewN _))
theorem rdo_2ok (base nb : Nat) (F H : Nat → Prop) (c : Cont) (way i k : Int) (A : Option Addr) (nl cp : Nat) (w : World) (h : NetIs 52 w base nb F H c) (hbase : base ≤ w.heap.size) (hb : hasC c way i = true) (hf : (c.row way.toNat).length < 400) :
    Calls Try.prog 24 #[.pointer (some ⟨nb, 0, none⟩), actV 2 way i k (.slice A nl cp)] w (RDoPost base nb F H ⟨c.set way.toNat (c.row way.toNat ++ [(c.row way.toNat).getD i.toNat []]), 0, [], 0⟩ w) := by
  have hal := boxed_only w 2 way i k A nl cp
  have HR := Lib.hid fun m => rhas_any nb base F H c way i _ (h.keep (hal.drewN m))
  rw [hb] at HR
  simp only [hasC, thereC, Bool.and_eq_true, decide_eq_true_eq] at hb
  obtain ⟨⟨⟨hw0, hw1⟩, hi0⟩, hi1⟩ := hb
  obtain ⟨hv, vs, rows, hA⟩ := h
  have hj : way.toNat < vs.length := by rw [← hA.nc]; omega
  obtain ⟨wb, cpn, A1, cq, ehv, n0, ev, n1, nf, hq1, hq2⟩ := hA.way hj
  obtain ⟨sep1, sep2, sep3⟩ := hA.sep hj
  have hown1 : ownB hv wb := by rw [ehv]; exact ownB_slice.2 rfl
  have hrow := hA.row _ hj
  have hrl := hA.clen _ hj
  have h400 := hA.c400 _ hj
  have hone := hA.one hj
  have hfr := hA.fr _ i.toNat hj (by omega)
  have Hvk := Lib.hid (show ∀ x, ownB ((rows.getD way.toNat []).getD i.toNat undef) x → H x ∧ ¬ F x from fun x hx => ⟨hfr.2 x hx, fun hf => hA.fh hf (hfr.2 x hx)⟩)
  rw [ev] at sep1 sep2 hrow
  have hne : nb ≠ wb := sep3 wb hown1
  have Hsep2 := Lib.hid (sep2 wb hown1)
  have Hsep1 := Lib.hid sep1
  have HA := Lib.hid hA
  have Hev := Lib.hid ev
  have Hrl := Lib.hid hrl
  have Hown1 := Lib.hid hown1
  have Hfr := Lib.hid hfr
  have hvl := hA.nc
  have hn : vs.length ≤ 32 := by rw [← hA.nc]; exact hA.c32
  rw [hvl] at hw1
  clear hrl ehv sep1 sep2 sep3 hA ev hown1 hfr hvl
  generalize hrv : rows.getD way.toNat [] = rowv at *
  have Hrv := Lib.hid hrv; clear hrv
  generalize hm : (c.row way.toNat).length = m at *
  have Hm := Lib.hid hm; clear hm
  have hul : i.toNat < rowv.length := by rw [Hrl.out]; omega
  obtain ⟨g, c8, eg, hcell, _⟩ := hrow.cell (i := i.toNat) (u := rowv.getD i.toNat undef) (by simp [hul])
  have eA : A1 = some ⟨g, 0, none⟩ := by injection eg
  subst eA
  have Hat := Lib.hid (show rowv[i.toNat]? = some (rowv.getD i.toNat undef) from by simp [hul])
  clear eg
  generalize hff : rowv.getD i.toNat undef = f at *
  have Hff := Lib.hid hff; clear hff
  obtain ⟨Af, cf, ef, _⟩ := Hfr.out.1
  generalize hlf : (c.row way.toNat).getD i.toNat [] = lf at *
  have Hlf := Lib.hid hlf; clear hlf
  subst ef
  unfold maxLen at hq2
  have n0' := hal.cell n0 id
  have n1' := hal.cell n1 id
  have nf' := hal.free n1 id nf
  have hcell' := hal.cell hcell id
  obtain ⟨b0, b1, b2, b3, b4⟩ := boxed_act w 2 way i k A nl cp
  have Hal := Lib.hid hal
  have Hrow := Lib.hid hrow
  have Hone := Lib.hid hone
  have HWo := Lib.hid fun w' (ho : Only Non w w') => without_any _ _ i w' (hrow.only ho fun _ _ => id) hone (by rw [Hrl.out]; exact h400) hi0 (by rw [Hrl.out]; exact hi1)
  have Hn1 := Lib.hid n1
  have Hnf := Lib.hid nf
  have Hn0 := Lib.hid n0
  have Hcell := Lib.hid hcell
  unfold actV
  unfold boxed at *
  clear hal n0 n1 nf hcell hrow hone
  go_enter Try.func24, Try.ntmps24
  go_wp2_with fail
  generalize w.alloc (.cells #[.int .i64 2, .int .i64 way, .int .i64 i, .int .i64 k, .slice A nl cp] 39) = W at *
  go_quiet (fail)
  go_wp2_with fail
  refine (HR.out _).mono ?_
  rintro e w' ⟨rfl, rfl⟩
  go_wp2_with fail
  go_region
  go_wp2_with fail
  refine wp_region_tail (S := fun w' => w'.cell? ⟨nb, 0, none⟩ = some (.slice (some ⟨wb, 0, none⟩) vs.length cpn) ∧ w'.cell? ⟨w.heap.size, 1, none⟩ = some (.int .i64 way) ∧ w'.cell? ⟨wb, way.toNat, none⟩ = some (.slice (some ⟨g, 0, none⟩) m cq)) 17 (by kernel_rfl) (by kernel_rfl) ?_ ?_
  · first | go_keep | (refine ⟨?_, ?_, ?_⟩ <;> first | assumption | (simp [*]; done))
  intro hSS
  refine wpHd_take (i := 0) (v := ?_) (by kernel_rfl) rfl (by kernel_rfl) (fun _ _ _ h => h) (Or.inl ⟨by rfl, ?_⟩) (by assumption) ?_
  rotate_left
  · intro w hSw; (try dsimp only at hSw); go_simp; (try with_reducible rfl)
  try simp only [Act.put, List.getElem_toArray, List.getElem_cons_succ, List.getElem_cons_zero, List.setIfInBounds_toArray, List.set_cons_zero, List.set_cons_succ]
  refine wpHd_take (i := 1) (v := ?_) (by kernel_rfl) rfl (by kernel_rfl) (fun _ _ _ h => h) (Or.inl ⟨by rfl, ?_⟩) (by assumption) ?_
  rotate_left
  · intro w hSw; (try dsimp only at hSw); go_simp; (try with_reducible rfl)
  try simp only [Act.put, List.getElem_toArray, List.getElem_cons_succ, List.getElem_cons_zero, List.setIfInBounds_toArray, List.set_cons_zero, List.set_cons_succ]
  refine wpHd_take (i := 2) (v := ?_) (by kernel_rfl) rfl (by kernel_rfl) (fun _ _ _ h => h) (Or.inl ⟨by rfl, ?_⟩) (by assumption) ?_
  rotate_left
  · intro w hSw; (try dsimp only at hSw); go_simp; (try with_reducible rfl)
  try simp only [Act.put, List.getElem_toArray, List.getElem_cons_succ, List.getElem_cons_zero, List.setIfInBounds_toArray, List.set_cons_zero, List.set_cons_succ]
  refine wpHd_take (i := 3) (v := ?_) (by kernel_rfl) rfl (by kernel_rfl) (fun _ _ _ h => h) (Or.inl ⟨by rfl, ?_⟩) (by assumption) ?_
  rotate_left
  · intro w hSw; (try dsimp only at hSw); go_simp; (try with_reducible rfl)
  try simp only [Act.put, List.getElem_toArray, List.getElem_cons_succ, List.getElem_cons_zero, List.setIfInBounds_toArray, List.set_cons_zero, List.set_cons_succ]
  refine wpHd_take (i := 4) (v := ?_) (by kernel_rfl) rfl (by kernel_rfl) (fun _ _ _ h => h) (Or.inl ⟨by rfl, ?_⟩) (by assumption) ?_
  rotate_left
  · intro w hSw; (try dsimp only at hSw); go_simp; (try with_reducible rfl)
  try simp only [Act.put, List.getElem_toArray, List.getElem_cons_succ, List.getElem_cons_zero, List.setIfInBounds_toArray, List.set_cons_zero, List.set_cons_succ]
  refine wpHd_take (i := 5) (v := ?_) (by kernel_rfl) rfl (by kernel_rfl) (fun _ _ _ h => h) (Or.inl ⟨by rfl, ?_⟩) (by assumption) ?_
  rotate_left
  · intro w hSw; (try dsimp only at hSw); go_simp; (try with_reducible rfl)
  try simp only [Act.put, List.getElem_toArray, List.getElem_cons_succ, List.getElem_cons_zero, List.setIfInBounds_toArray, List.set_cons_zero, List.set_cons_succ]
  refine wpHd_take (i := 6) (v := ?_) (by kernel_rfl) rfl (by kernel_rfl) (fun _ _ _ h => h) (Or.inl ⟨by rfl, ?_⟩) (by assumption) ?_
  rotate_left
  · intro w hSw; (try dsimp only at hSw); go_simp; (try with_reducible rfl)
  try simp only [Act.put, List.getElem_toArray, List.getElem_cons_succ, List.getElem_cons_zero, List.setIfInBounds_toArray, List.set_cons_zero, List.set_cons_succ]
  refine wpHd_take (i := 7) (v := ?_) (by kernel_rfl) rfl (by kernel_rfl) (fun _ _ _ h => h) (Or.inl ⟨by rfl, ?_⟩) (by assumption) ?_
  rotate_left
  · intro w hSw; (try dsimp only at hSw); go_simp; (try with_reducible rfl)
  try simp only [Act.put, List.getElem_toArray, List.getElem_cons_succ, List.getElem_cons_zero, List.setIfInBounds_toArray, List.set_cons_zero, List.set_cons_succ]
  refine wpHd_take (i := 8) (v := ?_) (by kernel_rfl) rfl (by kernel_rfl) (fun _ _ _ h => h) (Or.inl ⟨by rfl, ?_⟩) (by assumption) ?_
  rotate_left
  · intro w hSw; (try dsimp only at hSw); go_simp; (try with_reducible rfl)
  try simp only [Act.put, List.getElem_toArray, List.getElem_cons_succ, List.getElem_cons_zero, List.setIfInBounds_toArray, List.set_cons_zero, List.set_cons_succ]
  refine wpHd_take (i := 9) (v := ?_) (by kernel_rfl) rfl (by kernel_rfl) (fun _ _ _ h => h) (Or.inl ⟨by rfl, ?_⟩) (by assumption) ?_
  rotate_left
  · intro w hSw; (try dsimp only at hSw); go_simp; (try with_reducible rfl)
  try simp only [Act.put, List.getElem_toArray, List.getElem_cons_succ, List.getElem_cons_zero, List.setIfInBounds_toArray, List.set_cons_zero, List.set_cons_succ]
  refine wpHd_take (i := 10) (v := ?_) (by kernel_rfl) rfl (by kernel_rfl) (fun _ _ _ h => h) (Or.inl ⟨by rfl, ?_⟩) (by assumption) ?_
  rotate_left
  · intro w hSw; (try dsimp only at hSw); go_simp; (try with_reducible rfl)
  try simp only [Act.put, List.getElem_toArray, List.getElem_cons_succ, List.getElem_cons_zero, List.setIfInBounds_toArray, List.set_cons_zero, List.set_cons_succ]
  refine wpHd_take (i := 11) (v := ?_) (by kernel_rfl) rfl (by kernel_rfl) (fun _ _ _ h => h) (Or.inl ⟨by rfl, ?_⟩) (by assumption) ?_
  rotate_left
  · intro w hSw; (try dsimp only at hSw); go_simp; (try with_reducible rfl)
  try simp only [Act.put, List.getElem_toArray, List.getElem_cons_succ, List.getElem_cons_zero, List.setIfInBounds_toArray, List.set_cons_zero, List.set_cons_succ]
  refine wpHd_take (i := 12) (v := ?_) (by kernel_rfl) rfl (by kernel_rfl) (fun _ _ _ h => h) (Or.inl ⟨by rfl, ?_⟩) (by assumption) ?_
  rotate_left
  · intro w hSw; (try dsimp only at hSw); go_simp; (try with_reducible rfl)
  try simp only [Act.put, List.getElem_toArray, List.getElem_cons_succ, List.getElem_cons_zero, List.setIfInBounds_toArray, List.set_cons_zero, List.set_cons_succ]
  refine wpHd_take (i := 13) (v := ?_) (by kernel_rfl) rfl (by kernel_rfl) (fun _ _ _ h => h) (Or.inl ⟨by rfl, ?_⟩) (by assumption) ?_
  rotate_left
  · intro w hSw; (try dsimp only at hSw); go_simp; (try with_reducible rfl)
  try simp only [Act.put, List.getElem_toArray, List.getElem_cons_succ, List.getElem_cons_zero, List.setIfInBounds_toArray, List.set_cons_zero, List.set_cons_succ]
  refine wpHd_take (i := 14) (v := ?_) (by kernel_rfl) rfl (by kernel_rfl) (fun _ _ _ h => h) (Or.inl ⟨by rfl, ?_⟩) (by assumption) ?_
  rotate_left
  · intro w hSw; (try dsimp only at hSw); go_simp; (try with_reducible rfl)
  try simp only [Act.put, List.getElem_toArray, List.getElem_cons_succ, List.getElem_cons_zero, List.setIfInBounds_toArray, List.set_cons_zero, List.set_cons_succ]
  refine wpHd_one (i := 15) rfl (by kernel_rfl) (fun K hK => ?_)
  go_simp
  have hWq : Only Non w (W.drewN (nq + 1 + 1)) := by first | exact Hal.out.drewN _ | exact (Hal.out.drewN _).drew
  have HWq := Lib.hid hWq
  have hW := hWq.alloc (.cells #[.slice Af lf.length cf] 26)
  have hrowW := Hrow.out.only hW (fun _ _ => id)
  have hsrcW := one_src (W.drewN (nq + 1 + 1)) (.slice Af lf.length cf) 26
  have HW := Lib.hid hW
  have n0'' := hW.cell Hn0.out id
  have n1'' := hW.cell Hn1.out id
  have q1' := ((Only.refl Non (W.drewN (nq + 1 + 1))).alloc (.cells #[.slice Af lf.length cf] 26)).cell (p := ⟨w.heap.size, 1, none⟩) (v := .int .i64 way) (by assumption) id
  have Q1 := Lib.hid (show rowv.length + [Value.slice Af lf.length cf].length ≤ maxLen from by simp only [List.length_singleton, Hrl.out, maxLen]; omega)
  have Q2 := Lib.hid (show (rowv.length + [Value.slice Af lf.length cf].length) * 24 ≤ 140737488355328 from by simp only [List.length_singleton, Hrl.out]; omega)
  clear hW hWq
  refine hK.out _ _ ?_ (fun hSS => ?_)
  · first | go_keep | (refine ⟨?_, ?_, ?_⟩ <;> first | assumption | (simp [*]; done))
  clear hK
  try simp only [Act.put, List.getElem_toArray, List.getElem_cons_succ, List.getElem_cons_zero, List.setIfInBounds_toArray, List.set_cons_zero, List.set_cons_succ]
  refine wpHd_one (i := 16) rfl (by kernel_rfl) (fun K hK => ?_)
  refine step_append_row _ (by rfl) _ _ 22 26 (by rfl) frameInfo (by rfl) Try.underlying22 (.slice (some ⟨g, 0, none⟩) m cq) rowv (by rfl) hrowW (some ⟨(W.drewN (nq + 1 + 1)).heap.size, 0, none⟩) 1 1 [.slice Af lf.length cf] (by rfl) rfl hsrcW (by simp [Value.oneCell']) Q1.out Q2.out ?_
  intro v2 w2 hrow2 hgrow2 hown2 hold2
  obtain ⟨A2, c2, hv2, hs1, hs2⟩ := hrow2.shape
  have Hrow2 := Lib.hid hrow2
  have Hgrow2 := Lib.hid hgrow2
  have Hown2 := Lib.hid hown2
  have m0 := hgrow2.cell (HW.out.cell Hn0.out id) Hsep1.out
  have m1 := hgrow2.cell (HW.out.cell Hn1.out id) Hsep2.out
  have m2 := hgrow2.free (HW.out.cell Hn1.out id) Hsep2.out (HW.out.free Hn1.out id Hnf.out)
  have m3 := hgrow2.cell (p := ⟨w.heap.size, 1, none⟩) (v := .int .i64 way) q1' (fun hx => Nat.lt_irrefl _ (Hrow.out.lt hx))
  clear hs1 hs2 hrow2 hgrow2 hown2 hold2
  generalize (rowv ++ [Value.slice Af lf.length cf]).length = ne at *
  subst hv2
  refine hK.out _ _ ?_ (fun hSS => ?_)
  · first | go_keep | (refine ⟨?_, ?_, ?_⟩ <;> first | assumption | (simp [*]; done))
  clear hK
  try simp only [Act.put, List.getElem_toArray, List.getElem_cons_succ, List.getElem_cons_zero, List.setIfInBounds_toArray, List.set_cons_zero, List.set_cons_succ]
  refine wpHd_end (by kernel_rfl) ?_
  clear hSS hrowW hsrcW n0'' n1'' q1'
  go_wp2_with fail
  have hnp : NetPost 52 base nb F H (c.set way.toNat (c.row way.toNat ++ [lf])) w (w2.setCell ⟨wb, way.toNat, none⟩ (.slice A2 ne c2)) := by
    refine HA.out.push (w1 := W.drewN (nq + 1 + 1)) (wA := (W.drewN (nq + 1 + 1)).alloc (.cells #[.slice Af lf.length cf] 26)) (f := .slice Af lf.length cf) hj hbase (by rw [Hm.out]; omega) HWq.out (Hfr.out.1.only HWq.out fun _ _ => id) (fun x hx => .inl (Hfr.out.2 x hx)) ((Only.refl _ _).alloc _) ?_ ?_ ?_ Hown1.out
    · rw [Hrv.out]; exact Hrow2.out
    · rw [Hev.out]; exact Hgrow2.out
    · rw [Hev.out]; exact Hown2.out
  have Hnp := Lib.hid hnp
  clear hnp
  go_ret3
  exact RDoPost.no (s := 0) Hnp.out
end
end Go.Proofs.Ytlagccfllnhgbaa
