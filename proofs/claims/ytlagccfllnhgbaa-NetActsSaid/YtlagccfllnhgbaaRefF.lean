/- The document's net: Do, Turn. -/
import Derived.Test.YtlagccfllnhgbaaRefE
namespace Go.Proofs.Ytlagccfllnhgbaa
open Go.RowKit
set_option linter.unusedVariables false
set_option linter.unusedSimpArgs false
section
set_option maxHeartbeats 4000000
set_option maxRecDepth 100000
section
variable {T : TypeId} {w w1 w2 : World} {base nb : Nat} {F H H' : Nat → Prop} {hv : Value} {vs : List Value} {rows : List (List Value)} {c : Cont}
/-- row j is a fresh one, of frames that the old one had -/
theorem NetAt.fresh (h : NetAt T w base nb F H hv vs rows c) {j : Nat} (hj : j < vs.length) (hbase : base ≤ w.heap.size) (ho : Only Non w w1) {wb : Nat} (hwb : ownB hv wb) {v' : Value} {row' : List Value} {crow' : List (List Int)}
    (hrow' : Row 26 w1 v' row') (hown : ∀ k, ownB v' k → w.heap.size ≤ k) (hl : row'.length = crow'.length) (h400 : crow'.length ≤ 400)
    (hfr : ∀ i, i < crow'.length → ∃ i', i' < (c.row j).length ∧ row'.getD i undef = (rows.getD j []).getD i' undef ∧ crow'.getD i [] = (c.row j).getD i' []) :
    NetPost T base nb F H (c.set j crow') w (w1.setCell ⟨wb, j, none⟩ v') := by
  obtain ⟨s1, s2, s3⟩ := h.sep hj
  have z := ho.size
  refine h.update (H' := H) hj hbase (ho.mono fun _ h => h.elim) hwb (Only.setCell (S := Just wb) (p := ⟨wb, j, none⟩) (Only.refl _ _) (.inl rfl) _) ((h.top.only ho fun _ _ => id).store hj v' hwb) hrow' (fun k hk => .inr (hown k hk)) hl h400 (fun k hk => hk) (fun k hk => .inl hk) ?_ ?_
  · intro k hk
    have := h.hbox k hk
    exact ⟨by omega, this.2.imp id fun ⟨cs, hb⟩ => ⟨cs, ho.box hb id⟩⟩
  · intro i hi
    obtain ⟨i', h1, h2, h3⟩ := hfr i hi
    rw [h2, h3]
    have hf := h.fr j i' hj h1
    exact ⟨hf.1.only ho fun _ _ => id, hf.2⟩
end
theorem rdo_4 (base nb : Nat) (F H : Nat → Prop) (c : Cont) (way i k : Int) (A : Option Addr) (nl cp : Nat) (w : World) (h : NetIs 52 w base nb F H c) (hbase : base ≤ w.heap.size) (hb : hasC c way i = true) (hbk : hasC c way k = true) :
    Calls Try.prog 24 #[.pointer (some ⟨nb, 0, none⟩), actV 4 way i k (.slice A nl cp)] w (RDoPost base nb F H ⟨c.set way.toNat (swapL (c.row way.toNat) i.toNat k.toNat), 0, [], 0⟩ w) := by
  have hal := boxed_only w 4 way i k A nl cp
  have HR := Lib.hid fun m => rhas_any nb base F H c way i _ (h.keep (hal.drewN m))
  rw [hb] at HR
  have HRk := Lib.hid fun m => rhas_any nb base F H c way k _ (h.keep (hal.drewN m))
  rw [hbk] at HRk
  have hbk2 := hbk
  simp only [hasC, thereC, Bool.and_eq_true, decide_eq_true_eq] at hbk2
  have hk0 : 0 ≤ k := hbk2.1.2
  have hk1 : k < ((c.row way.toNat).length : Int) := hbk2.2
  clear hbk hbk2
  simp only [hasC, thereC, Bool.and_eq_true, decide_eq_true_eq] at hb
  obtain ⟨⟨⟨hw0, hw1⟩, hi0⟩, hi1⟩ := hb
  obtain ⟨hv, vs, rows, hA⟩ := h
  have hj : way.toNat < vs.length := by rw [← hA.nc]; omega
  obtain ⟨wb, cpn, A1, cq, ehv, n0, ev, n1, nf, hq1, hq2⟩ := hA.way hj
  obtain ⟨sep1, sep2, sep3⟩ := hA.sep hj
  have hown1 : ownB hv wb := by rw [ehv]; exact ownB_slice.2 rfl
  have hrow := hA.row _ hj
  have hrl := hA.clen _ hj
  have h400 := hA.c400 _ hj
  have hone := hA.one hj
  have hfr := hA.fr _ i.toNat hj (by omega)
  have Hvk := Lib.hid (show ∀ x, ownB ((rows.getD way.toNat []).getD i.toNat undef) x → H x ∧ ¬ F x from fun x hx => ⟨hfr.2 x hx, fun hf => hA.fh hf (hfr.2 x hx)⟩)
  rw [ev] at sep1 sep2 hrow
  have hne : nb ≠ wb := sep3 wb hown1
  have Hsep2 := Lib.hid (sep2 wb hown1)
  have Hsep1 := Lib.hid sep1
  have HA := Lib.hid hA
  have Hev := Lib.hid ev
  have Hrl := Lib.hid hrl
  have Hown1 := Lib.hid hown1
  have Hfr := Lib.hid hfr
  have hvl := hA.nc
  have hn : vs.length ≤ 32 := by rw [← hA.nc]; exact hA.c32
  rw [hvl] at hw1
  clear hrl ehv sep1 sep2 sep3 hA ev hown1 hfr hvl
  generalize hrv : rows.getD way.toNat [] = rowv at *
  have Hrv := Lib.hid hrv; clear hrv
  generalize hm : (c.row way.toNat).length = m at *
  have Hm := Lib.hid hm; clear hm
  have hul : i.toNat < rowv.length := by rw [Hrl.out]; omega
  obtain ⟨g, c8, eg, hcell, _⟩ := hrow.cell (i := i.toNat) (u := rowv.getD i.toNat undef) (by simp [hul])
  have eA : A1 = some ⟨g, 0, none⟩ := by injection eg
  subst eA
  have Hat := Lib.hid (show rowv[i.toNat]? = some (rowv.getD i.toNat undef) from by simp [hul])
  clear eg
  have hkl : k.toNat < rowv.length := by rw [Hrl.out]; omega
  obtain ⟨g2, c9, eg2, hcellk, _⟩ := hrow.cell (i := k.toNat) (u := rowv.getD k.toNat undef) (by simp [hkl])
  have eA2 : (some ⟨g, 0, none⟩ : Option Addr) = some ⟨g2, 0, none⟩ := by injection eg2
  injection eA2 with eA2
  injection eA2 with eA2
  subst eA2
  clear eg2
  have Hatk := Lib.hid (show rowv[k.toNat]? = some (rowv.getD k.toNat undef) from by simp [hkl])
  generalize hff : rowv.getD i.toNat undef = f at *
  have Hff := Lib.hid hff; clear hff
  generalize hfg : rowv.getD k.toNat undef = fk at *
  obtain ⟨Af, cf, ef, _⟩ := Hfr.out.1
  have hfk := HA.out.fr _ k.toNat hj (by rw [Hm.out]; omega)
  obtain ⟨Ak, ck, ek, _⟩ := hfk.1
  rw [Hrv.out, hfg] at ek
  clear hfk
  generalize hlf : (c.row way.toNat).getD i.toNat [] = lf at *
  generalize hlk : (c.row way.toNat).getD k.toNat [] = lk at *
  clear hlf hlk
  generalize lf.length = q1 at *
  generalize lk.length = q2 at *
  have Hfg := Lib.hid hfg; clear hfg
  subst ef ek
  unfold maxLen at hq2
  have n0' := hal.cell n0 id
  have n1' := hal.cell n1 id
  have nf' := hal.free n1 id nf
  have hcell' := hal.cell hcell id
  have hcellk' := hal.cell hcellk id
  obtain ⟨b0, b1, b2, b3, b4⟩ := boxed_act w 4 way i k A nl cp
  have Hal := Lib.hid hal
  have Hrow := Lib.hid hrow
  have Hone := Lib.hid hone
  have HWo := Lib.hid fun w' (ho : Only Non w w') => without_any _ _ i w' (hrow.only ho fun _ _ => id) hone (by rw [Hrl.out]; exact h400) hi0 (by rw [Hrl.out]; exact hi1)
  have Hn1 := Lib.hid n1
  have Hnf := Lib.hid nf
  have Hn0 := Lib.hid n0
  have Hcell := Lib.hid hcell
  unfold actV
  unfold boxed at *
  clear hal n0 n1 nf hcell hrow hone
  have Hcellk := Lib.hid hcellk
  clear hcellk
  have key : ∀ w' g1 c1, Only Non w w' → w.heap.size ≤ g1 → Row 26 w' (.slice (some ⟨g1, 0, none⟩) m c1) ((rowv.set i.toNat (rowv.getD k.toNat undef)).set k.toNat (rowv.getD i.toNat undef)) →
      NetPost 52 base nb F H (c.set way.toNat (swapL (c.row way.toNat) i.toNat k.toNat)) w (w'.setCell ⟨wb, way.toNat, none⟩ (.slice (some ⟨g1, 0, none⟩) m c1)) := by
    intro w' g1 c1 h1 h2 h3
    refine HA.out.fresh hj hbase h1 Hown1.out h3 (fun x hx => by rw [← ownB_slice.1 hx]; exact h2) ?_ ?_ ?_
    · simp only [swapL, List.length_set]; rw [Hrl.out, Hm.out]
    · simp only [swapL, List.length_set]; rw [Hm.out]; exact h400
    · intro a ha
      simp only [swapL, List.length_set] at ha
      rw [Hrv.out]
      exact swap_at rowv (c.row way.toNat) i.toNat k.toNat a (by rw [Hrl.out, Hm.out]) (by rw [Hm.out]; omega) (by rw [Hm.out]; omega) ha
  rw [Hff.out, Hfg.out] at key
  have Key := Lib.hid key
  clear key
  have T0 := Lib.hid (show m = rowv.length from Hrl.out.symm)
  have T1 := Lib.hid (show ([] : List Value).length + rowv.length ≤ maxLen from by rw [List.length_nil, Hrl.out]; unfold maxLen; omega)
  have T2 := Lib.hid (show (([] : List Value).length + rowv.length) * 24 ≤ 140737488355328 from by rw [List.length_nil, Hrl.out]; omega)
  clear Hvk Hfr
  go_enter Try.func24, Try.ntmps24
  go_wp2_with fail
  have Hsz := Lib.hid (Box.fresh w 39 #[.int .i64 4, .int .i64 way, .int .i64 i, .int .i64 k, .slice A nl cp]).lt
  generalize w.alloc (.cells #[.int .i64 4, .int .i64 way, .int .i64 i, .int .i64 k, .slice A nl cp] 39) = W at *
  go_quiet (fail)
  go_wp2_with fail
  refine (HR.out _).mono ?_
  rintro e w' ⟨rfl, rfl⟩
  go_wp2_with fail
  refine (HRk.out _).mono ?_
  rintro e w' ⟨rfl, rfl⟩
  go_wp2_with fail
  go_region
  go_wp2_with (at_builtin; refine wpList_append_row _ rfl (.tmp 179) (.tmp 180) 22 26 rfl frameInfo rfl Try.underlying22 (.slice none 0 0) [] rfl (Row.nil_ _ _) (some ⟨g, 0, none⟩) m cq rowv rfl T0.out (Hrow.out.only (by first | exact Hal.out.drewN _ | exact (Hal.out.drewN _).drewN _ | exact (Hal.out.drewN _).drew) fun _ _ => id).srcOf.2 Hone.out T1.out T2.out ?_
               intro v1 w1 hrow1 hgrow1 hown1 _
               rw [List.nil_append] at hrow1
               have hgr1 : Only Non _ w1 := hgrow1.mono fun b hb => (ownB_none hb).elim
               have hW1 : Only Non w w1 := by first | exact (Hal.out.drewN _).trans hgr1 | exact ((Hal.out.drewN _).drewN _).trans hgr1 | exact ((Hal.out.drewN _).drew).trans hgr1
               obtain ⟨g1, c1, hv1, d1, z1⟩ := hrow1.cell (i := i.toNat) (u := .slice Af q1 cf) Hat.out
               obtain ⟨g2, c2, hv2, d2, z2⟩ := hrow1.cell (i := k.toNat) (u := .slice Ak q2 ck) Hatk.out
               have eA2 : (some ⟨g1, 0, none⟩ : Option Addr) = some ⟨g2, 0, none⟩ := by rw [hv1] at hv2; injection hv2
               injection eA2 with eA2
               injection eA2 with eA2
               subst eA2
               clear hv2
               obtain ⟨_, c1', hv1', hm1, hm2⟩ := hrow1.shape
               have hnew1 : w.heap.size ≤ g1 := (hown1 g1 (by rw [hv1]; exact ownB_slice.2 rfl)).elim (fun h => (ownB_none h).elim) (fun h => Nat.le_trans (by first | exact Hal.out.size | exact (Hal.out.drewN _).size) h)
               have Hlt1 := Lib.hid (show w.heap.size < g1 from (hown1 g1 (by rw [hv1]; exact ownB_slice.2 rfl)).elim (fun h => (ownB_none h).elim) (fun h => Nat.lt_of_lt_of_le (by first | exact Hsz.out) h))
               have e1 := hW1.cell Hn0.out id
               have e2 := hW1.cell Hn1.out id
               have e3 := hW1.free Hn1.out id Hnf.out
               have e4 := hW1.cell Hcell.out id
               have e5 := hW1.cell Hcellk.out id
               have f1 := hgr1.cell (p := ⟨w.heap.size, 1, none⟩) (v := .int .i64 way) (by assumption) id
               have f2 := hgr1.cell (p := ⟨w.heap.size, 2, none⟩) (v := .int .i64 i) (by assumption) id
               have f3 := hgr1.cell (p := ⟨w.heap.size, 3, none⟩) (v := .int .i64 k) (by assumption) id
               have Hrow1 := Lib.hid hrow1
               have HW1 := Lib.hid hW1
               have Hnew1 := Lib.hid hnew1
               rw [Hrl.out] at hv1 hm1
               rw [hv1] at hv1'
               injection hv1' with x1 x2 x3
               subst x3
               clear x1 x2
               subst hv1
               clear hrow1 hgr1 hW1 hnew1 hgrow1 hown1)
  have hlt1 := Hlt1.out
  have g1nb : nb ≠ g1 := by have := HA.out.flt ((HA.out.foot nb).2 (.inl rfl)); omega
  have g1wb : wb ≠ g1 := by have := HA.out.flt ((HA.out.foot wb).2 (.inr (.inl Hown1.out))); omega
  have g1ab : w.heap.size ≠ g1 := by omega
  clear hlt1
  by_cases hik : i.toNat = k.toNat
  · obtain rfl : k = i := by omega
    have ee := Hff.out.symm.trans Hfg.out
    injection ee with e1 e2 e3
    subst e1 e2 e3
    clear hcellk' e5 d2 z2 hik
    go_region
    go_wp2_with fail
    go_region
    go_wp2_with fail
    go_ret3
    refine RDoPost.no (s := 0) ((Key.out _ g1 c1 ?_ Hnew1.out ?_).drew 2)
    · exact Only.setCell (p := ⟨g1, _, none⟩) (Only.setCell (p := ⟨g1, _, none⟩) HW1.out (.inr Hnew1.out) _) (.inr Hnew1.out) _
    · exact (Hrow1.out.store hkl _ (ownB_slice.2 rfl)).store (by rw [List.length_set]; exact hkl) _ (by rw [ownB_slice])
  · have hik2 : ¬ k.toNat = i.toNat := fun e => hik e.symm
    go_region
    go_wp2_with fail
    go_region
    go_wp2_with fail
    go_ret3
    refine RDoPost.no (s := 0) ((Key.out _ g1 c1 ?_ Hnew1.out ?_).drew 2)
    · exact Only.setCell (p := ⟨g1, _, none⟩) (Only.setCell (p := ⟨g1, _, none⟩) HW1.out (.inr Hnew1.out) _) (.inr Hnew1.out) _
    · exact (Hrow1.out.store hul _ (ownB_slice.2 rfl)).store (by rw [List.length_set]; exact hkl) _ (by rw [ownB_slice])
end
end Go.Proofs.Ytlagccfllnhgbaa
