/- Twice, Lose, Turn, Clear. -/
import Derived.Test.YtlagccfllnhgbaaNetE
namespace Go.Proofs.Ytlagccfllnhgbaa
open Go.RowKit
set_option linter.unusedVariables false
set_option linter.unusedSimpArgs false

def ErrPost (base nb : Nat) (F H : Nat → Prop) (err : Int) (c' : Cont) (w : World) (e : Ending) (w' : World) : Prop :=
  e = .returned (.int .i64 err) ∧ NetPost 75 base nb F H c' w w'
def TwicePost (base nb : Nat) (F H : Nat → Prop) (c : Cont) (j i : Nat) (w : World) (e : Ending) (w' : World) : Prop :=
  ErrPost base nb F H 0 (c.set j (c.row j ++ [(c.row j).getD i []])) w e w'
section
set_option maxHeartbeats 2000000
set_option maxRecDepth 100000
theorem ntwice_no (p : Option Addr) (way i err : Int) (w : World) (herr : err ≠ 0) (ht : Calls Try.prog 43 #[.pointer p, .int .i64 way, .int .i64 i] w fun e w' => e = .returned (.int .i64 err) ∧ w = w') :
    Calls Try.prog 22 #[.pointer p, .int .i64 way, .int .i64 i] w fun e w' => e = .returned (.int .i64 err) ∧ w = w' := by
  have H := Lib.hid ht; clear ht
  have he : (err != 0) = true := by simp [herr]
  clear herr
  go_enter Try.func22, Try.ntmps22
  go_wp2_with (go_at_call 43; refine H.out.mono ?_; rintro e w' ⟨rfl, rfl⟩)
  go_ret
  exact ⟨rfl, rfl⟩
theorem ntwice_full (nb wb n cp ln cq : Nat) (A : Option Addr) (way i : Int) (w : World) (hw0 : 0 ≤ way) (hw1 : way < n) (hn : n ≤ 32) (hl : 400 ≤ ln) (hl2 : ln ≤ 400) (h0 : w.cell? ⟨nb, 0, none⟩ = some (.slice (some ⟨wb, 0, none⟩) n cp))
    (h1 : w.cell? ⟨wb, way.toNat, none⟩ = some (.slice A ln cq)) (ht : Calls Try.prog 43 #[.pointer (some ⟨nb, 0, none⟩), .int .i64 way, .int .i64 i] w fun e w' => e = .returned (.int .i64 0) ∧ w = w') :
    Calls Try.prog 22 #[.pointer (some ⟨nb, 0, none⟩), .int .i64 way, .int .i64 i] w fun e w' => e = .returned (.int .i64 4) ∧ w = w' := by
  have H := Lib.hid ht; clear ht
  go_enter Try.func22, Try.ntmps22
  go_wp2_with (go_at_call 43; refine H.out.mono ?_; rintro e w' ⟨rfl, rfl⟩)
  go_ret
  exact ⟨rfl, rfl⟩
theorem ntwice_yes (base nb : Nat) (F H : Nat → Prop) (c : Cont) (way i : Int) (w : World) (h : NetIs 75 w base nb F H c) (hbase : base ≤ w.heap.size) (hb : hasC c way i = true) (hlt4 : (c.row way.toNat).length < 400) :
    Calls Try.prog 22 #[.pointer (some ⟨nb, 0, none⟩), .int .i64 way, .int .i64 i] w (TwicePost base nb F H c way.toNat i.toNat w) := by
  have ht := nwrong_any nb base F H c way i w h
  rw [hb] at ht
  have Ht := Lib.hid ht; clear ht
  simp only [hasC, thereC, Bool.and_eq_true, decide_eq_true_eq] at hb
  obtain ⟨⟨⟨hw0, hw1⟩, hi0⟩, hi1⟩ := hb
  obtain ⟨hv1, vs1, rows1, hA⟩ := h
  have hjv : way.toNat < vs1.length := by rw [← hA.nc]; omega
  obtain ⟨wb1, cp1, A1, cq1, ehv, n0, ev, n1, nf, hq1, hq2⟩ := hA.way hjv
  obtain ⟨sep1, sep2, sep3⟩ := hA.sep hjv
  have hown1 : ownB hv1 wb1 := by rw [ehv]; exact ownB_slice.2 rfl
  have hrowA := hA.row _ hjv
  have hrl := hA.clen _ hjv
  have h400 := hA.c400 _ hjv
  have hfr := hA.fr _ i.toNat hjv (by omega)
  have hflt := fun k (hk : ownB ((rows1.getD way.toNat []).getD i.toNat undef) k) => And.intro (hA.hbox k (hfr.2 k hk)).1 (fun hf => hA.fh hf (hfr.2 k hk))
  rw [ev] at sep1 sep2 hrowA
  have hne : nb ≠ wb1 := sep3 wb1 hown1
  have Ht1 := Lib.hid (sep2 wb1 hown1)
  have Ht2 := Lib.hid sep1
  have HA := Lib.hid hA
  have Hev := Lib.hid ev
  have Hrl := Lib.hid hrl
  have Hown1 := Lib.hid hown1
  have Hfr := Lib.hid hfr
  have Hflt := Lib.hid hflt
  have hvl := hA.nc
  have hvl32 := hA.c32
  rw [hvl] at hw1 hvl32
  clear hrl ehv sep1 sep2 sep3 hA ev hown1 hfr hflt hvl
  generalize hrv : rows1.getD way.toNat [] = rowv at *
  have Hrv := Lib.hid hrv; clear hrv
  generalize hm : (c.row way.toNat).length = m at *
  have Hm := Lib.hid hm; clear hm
  have hul : i.toNat < rowv.length := by rw [Hrl.out]; omega
  obtain ⟨g, c9, eg, hcut⟩ := hrowA.cut hul
  obtain ⟨g2, c8, eg2, hcell, _⟩ := hrowA.cell (i := i.toNat) (u := rowv.getD i.toNat undef) (by simp [hul])
  have eA : A1 = some ⟨g, 0, none⟩ := by injection eg
  have eA2 : A1 = some ⟨g2, 0, none⟩ := by injection eg2
  rw [eA] at eA2
  injection eA2 with eA2
  injection eA2 with eA2
  subst eA2 eA
  have Hrow := Lib.hid hrowA
  have Hat := Lib.hid (show rowv[i.toNat]? = some (rowv.getD i.toNat undef) from by simp [hul])
  clear eg eg2 hcut hrowA
  unfold maxLen at hq2
  generalize hff : rowv.getD i.toNat undef = f at *
  have Hff := Lib.hid hff; clear hff
  have Hbyt := Lib.hid Hfr.out.1
  generalize hlf : (c.row way.toNat).getD i.toNat [] = lf at *
  have Hlf := Lib.hid hlf; clear hlf
  go_enter Try.func22, Try.ntmps22
  go_wp2_with (go_at_call 43; refine Ht.out.mono ?_; rintro e w' ⟨rfl, rfl⟩)
  simp only [wrongN, if_true]
  go_wp2_with fail
  refine wp_region_tail (S := fun w' => w'.cell? ⟨nb, 0, none⟩ = some (.slice (some ⟨wb1, 0, none⟩) vs1.length cp1) ∧ w'.cell? ⟨wb1, way.toNat, none⟩ = some (.slice (some ⟨g, 0, none⟩) m cq1) ∧ w'.cell? ⟨g, i.toNat, none⟩ = some f) 25 (by kernel_rfl) (by kernel_rfl) ?_ ?_
  · first | go_keep | (refine ⟨?_, ?_, ?_⟩ <;> first | assumption | (simp [*]; done))
  intro hSS
  refine wpHd_take (i := 0) (v := ?_) (by kernel_rfl) rfl (by kernel_rfl) (fun _ _ _ h => h) (Or.inl ⟨by rfl, ?_⟩) (by assumption) ?_
  rotate_left
  · intro w hSw; (try dsimp only at hSw); go_simp; (try with_reducible rfl)
  try simp only [Act.put, List.getElem_toArray, List.getElem_cons_succ, List.getElem_cons_zero, List.setIfInBounds_toArray, List.set_cons_zero, List.set_cons_succ]
  refine wpHd_take (i := 1) (v := ?_) (by kernel_rfl) rfl (by kernel_rfl) (fun _ _ _ h => h) (Or.inl ⟨by rfl, ?_⟩) (by assumption) ?_
  rotate_left
  · intro w hSw; (try dsimp only at hSw); go_simp; (try with_reducible rfl)
  try simp only [Act.put, List.getElem_toArray, List.getElem_cons_succ, List.getElem_cons_zero, List.setIfInBounds_toArray, List.set_cons_zero, List.set_cons_succ]
  refine wpHd_take (i := 2) (v := ?_) (by kernel_rfl) rfl (by kernel_rfl) (fun _ _ _ h => h) (Or.inl ⟨by rfl, ?_⟩) (by assumption) ?_
  rotate_left
  · intro w hSw; (try dsimp only at hSw); go_simp; (try with_reducible rfl)
  try simp only [Act.put, List.getElem_toArray, List.getElem_cons_succ, List.getElem_cons_zero, List.setIfInBounds_toArray, List.set_cons_zero, List.set_cons_succ]
  refine wpHd_take (i := 3) (v := ?_) (by kernel_rfl) rfl (by kernel_rfl) (fun _ _ _ h => h) (Or.inl ⟨by rfl, ?_⟩) (by assumption) ?_
  rotate_left
  · intro w hSw; (try dsimp only at hSw); go_simp; (try with_reducible rfl)
  try simp only [Act.put, List.getElem_toArray, List.getElem_cons_succ, List.getElem_cons_zero, List.setIfInBounds_toArray, List.set_cons_zero, List.set_cons_succ]
  refine wpHd_take (i := 4) (v := ?_) (by kernel_rfl) rfl (by kernel_rfl) (fun _ _ _ h => h) (Or.inl ⟨by rfl, ?_⟩) (by assumption) ?_
  rotate_left
  · intro w hSw; (try dsimp only at hSw); go_simp; (try with_reducible rfl)
  try simp only [Act.put, List.getElem_toArray, List.getElem_cons_succ, List.getElem_cons_zero, List.setIfInBounds_toArray, List.set_cons_zero, List.set_cons_succ]
  refine wpHd_take (i := 5) (v := ?_) (by kernel_rfl) rfl (by kernel_rfl) (fun _ _ _ h => h) (Or.inl ⟨by rfl, ?_⟩) (by assumption) ?_
  rotate_left
  · intro w hSw; (try dsimp only at hSw); go_simp; (try with_reducible rfl)
  try simp only [Act.put, List.getElem_toArray, List.getElem_cons_succ, List.getElem_cons_zero, List.setIfInBounds_toArray, List.set_cons_zero, List.set_cons_succ]
  refine wpHd_take (i := 6) (v := ?_) (by kernel_rfl) rfl (by kernel_rfl) (fun _ _ _ h => h) (Or.inl ⟨by rfl, ?_⟩) (by assumption) ?_
  rotate_left
  · intro w hSw; (try dsimp only at hSw); go_simp; (try with_reducible rfl)
  try simp only [Act.put, List.getElem_toArray, List.getElem_cons_succ, List.getElem_cons_zero, List.setIfInBounds_toArray, List.set_cons_zero, List.set_cons_succ]
  refine wpHd_take (i := 7) (v := ?_) (by kernel_rfl) rfl (by kernel_rfl) (fun _ _ _ h => h) (Or.inl ⟨by rfl, ?_⟩) (by assumption) ?_
  rotate_left
  · intro w hSw; (try dsimp only at hSw); go_simp; (try with_reducible rfl)
  try simp only [Act.put, List.getElem_toArray, List.getElem_cons_succ, List.getElem_cons_zero, List.setIfInBounds_toArray, List.set_cons_zero, List.set_cons_succ]
  refine wpHd_take (i := 8) (v := ?_) (by kernel_rfl) rfl (by kernel_rfl) (fun _ _ _ h => h) (Or.inl ⟨by rfl, ?_⟩) (by assumption) ?_
  rotate_left
  · intro w hSw; (try dsimp only at hSw); go_simp; (try with_reducible rfl)
  try simp only [Act.put, List.getElem_toArray, List.getElem_cons_succ, List.getElem_cons_zero, List.setIfInBounds_toArray, List.set_cons_zero, List.set_cons_succ]
  refine wpHd_take (i := 9) (v := ?_) (by kernel_rfl) rfl (by kernel_rfl) (fun _ _ _ h => h) (Or.inl ⟨by rfl, ?_⟩) (by assumption) ?_
  rotate_left
  · intro w hSw; (try dsimp only at hSw); go_simp; (try with_reducible rfl)
  try simp only [Act.put, List.getElem_toArray, List.getElem_cons_succ, List.getElem_cons_zero, List.setIfInBounds_toArray, List.set_cons_zero, List.set_cons_succ]
  refine wpHd_take (i := 10) (v := ?_) (by kernel_rfl) rfl (by kernel_rfl) (fun _ _ _ h => h) (Or.inl ⟨by rfl, ?_⟩) (by assumption) ?_
  rotate_left
  · intro w hSw; (try dsimp only at hSw); go_simp; (try with_reducible rfl)
  try simp only [Act.put, List.getElem_toArray, List.getElem_cons_succ, List.getElem_cons_zero, List.setIfInBounds_toArray, List.set_cons_zero, List.set_cons_succ]
  refine wpHd_take (i := 11) (v := ?_) (by kernel_rfl) rfl (by kernel_rfl) (fun _ _ _ h => h) (Or.inl ⟨by rfl, ?_⟩) (by assumption) ?_
  rotate_left
  · intro w hSw; (try dsimp only at hSw); go_simp; (try with_reducible rfl)
  try simp only [Act.put, List.getElem_toArray, List.getElem_cons_succ, List.getElem_cons_zero, List.setIfInBounds_toArray, List.set_cons_zero, List.set_cons_succ]
  refine wpHd_take (i := 12) (v := ?_) (by kernel_rfl) rfl (by kernel_rfl) (fun _ _ _ h => h) (Or.inl ⟨by rfl, ?_⟩) (by assumption) ?_
  rotate_left
  · intro w hSw; (try dsimp only at hSw); go_simp; (try with_reducible rfl)
  try simp only [Act.put, List.getElem_toArray, List.getElem_cons_succ, List.getElem_cons_zero, List.setIfInBounds_toArray, List.set_cons_zero, List.set_cons_succ]
  refine wpHd_take (i := 13) (v := ?_) (by kernel_rfl) rfl (by kernel_rfl) (fun _ _ _ h => h) (Or.inl ⟨by rfl, ?_⟩) (by assumption) ?_
  rotate_left
  · intro w hSw; (try dsimp only at hSw); go_simp; (try with_reducible rfl)
  try simp only [Act.put, List.getElem_toArray, List.getElem_cons_succ, List.getElem_cons_zero, List.setIfInBounds_toArray, List.set_cons_zero, List.set_cons_succ]
  refine wpHd_take (i := 14) (v := ?_) (by kernel_rfl) rfl (by kernel_rfl) (fun _ _ _ h => h) (Or.inl ⟨by rfl, ?_⟩) (by assumption) ?_
  rotate_left
  · intro w hSw; (try dsimp only at hSw); go_simp; (try with_reducible rfl)
  try simp only [Act.put, List.getElem_toArray, List.getElem_cons_succ, List.getElem_cons_zero, List.setIfInBounds_toArray, List.set_cons_zero, List.set_cons_succ]
  refine wpHd_take (i := 15) (v := ?_) (by kernel_rfl) rfl (by kernel_rfl) (fun _ _ _ h => h) (Or.inl ⟨by rfl, ?_⟩) (by assumption) ?_
  rotate_left
  · intro w hSw; (try dsimp only at hSw); go_simp; (try with_reducible rfl)
  try simp only [Act.put, List.getElem_toArray, List.getElem_cons_succ, List.getElem_cons_zero, List.setIfInBounds_toArray, List.set_cons_zero, List.set_cons_succ]
  refine wpHd_take (i := 16) (v := ?_) (by kernel_rfl) rfl (by kernel_rfl) (fun _ _ _ h => h) (Or.inl ⟨by rfl, ?_⟩) (by assumption) ?_
  rotate_left
  · intro w hSw; (try dsimp only at hSw); go_simp; (try with_reducible rfl)
  try simp only [Act.put, List.getElem_toArray, List.getElem_cons_succ, List.getElem_cons_zero, List.setIfInBounds_toArray, List.set_cons_zero, List.set_cons_succ]
  refine wpHd_take (i := 17) (v := ?_) (by kernel_rfl) rfl (by kernel_rfl) (fun _ _ _ h => h) (Or.inl ⟨by rfl, ?_⟩) (by assumption) ?_
  rotate_left
  · intro w hSw; (try dsimp only at hSw); go_simp; (try with_reducible rfl)
  try simp only [Act.put, List.getElem_toArray, List.getElem_cons_succ, List.getElem_cons_zero, List.setIfInBounds_toArray, List.set_cons_zero, List.set_cons_succ]
  refine wpHd_take (i := 18) (v := ?_) (by kernel_rfl) rfl (by kernel_rfl) (fun _ _ _ h => h) (Or.inl ⟨by rfl, ?_⟩) (by assumption) ?_
  rotate_left
  · intro w hSw; (try dsimp only at hSw); go_simp; (try with_reducible rfl)
  try simp only [Act.put, List.getElem_toArray, List.getElem_cons_succ, List.getElem_cons_zero, List.setIfInBounds_toArray, List.set_cons_zero, List.set_cons_succ]
  refine wpHd_take (i := 19) (v := ?_) (by kernel_rfl) rfl (by kernel_rfl) (fun _ _ _ h => h) (Or.inl ⟨by rfl, ?_⟩) (by assumption) ?_
  rotate_left
  · intro w hSw; (try dsimp only at hSw); go_simp; (try with_reducible rfl)
  try simp only [Act.put, List.getElem_toArray, List.getElem_cons_succ, List.getElem_cons_zero, List.setIfInBounds_toArray, List.set_cons_zero, List.set_cons_succ]
  refine wpHd_take (i := 20) (v := ?_) (by kernel_rfl) rfl (by kernel_rfl) (fun _ _ _ h => h) (Or.inl ⟨by rfl, ?_⟩) (by assumption) ?_
  rotate_left
  · intro w hSw; (try dsimp only at hSw); go_simp; (try with_reducible rfl)
  try simp only [Act.put, List.getElem_toArray, List.getElem_cons_succ, List.getElem_cons_zero, List.setIfInBounds_toArray, List.set_cons_zero, List.set_cons_succ]
  refine wpHd_take (i := 21) (v := ?_) (by kernel_rfl) rfl (by kernel_rfl) (fun _ _ _ h => h) (Or.inl ⟨by rfl, ?_⟩) (by assumption) ?_
  rotate_left
  · intro w hSw; (try dsimp only at hSw); go_simp; (try with_reducible rfl)
  try simp only [Act.put, List.getElem_toArray, List.getElem_cons_succ, List.getElem_cons_zero, List.setIfInBounds_toArray, List.set_cons_zero, List.set_cons_succ]
  refine wpHd_one (i := 22) rfl (by kernel_rfl) (fun K hK => ?_)
  go_simp
  refine (clone_any f lf _ (Hbyt.out.only (Only.drew (Only.refl Non _)) (fun _ _ => id))).mono ?_
  rintro e w1 ⟨v, hve, hbv, hov, hnew⟩
  have Hbv := Lib.hid hbv
  have Hnew := Lib.hid hnew
  obtain ⟨Av, cv, hv', hb1, hb2, hb3⟩ := hbv
  clear hb1 hb2 hb3 hnew
  subst hv' hve
  have Hov := Lib.hid ((Only.drew (Only.refl Non w)).trans hov)
  have n0' := hov.cell n0 id
  have n1' := hov.cell n1 id
  have n3' := hov.cell hcell id
  refine hK.out _ _ ?_ (fun hSS => ?_)
  · first | go_keep | (refine ⟨?_, ?_, ?_⟩ <;> first | assumption | (simp [*]; done))
  clear hK
  try simp only [Act.put, List.getElem_toArray, List.getElem_cons_succ, List.getElem_cons_zero, List.setIfInBounds_toArray, List.set_cons_zero, List.set_cons_succ]
  refine wpHd_one (i := 23) rfl (by kernel_rfl) (fun K hK => ?_)
  go_simp
  have hW : Only Non w (w1.alloc (.cells #[.slice Av lf.length cv] 26)) := ((Only.drew (Only.refl Non w)).trans hov).alloc _
  have hrowW := Hrow.out.only hW (fun _ _ => id)
  have hsrcW := one_src w1 (.slice Av lf.length cv) 26
  have HW := Lib.hid hW
  have n0'' := hW.cell n0 id
  have n1'' := hW.cell n1 id
  have n3'' := hW.cell hcell id
  have Q1 := Lib.hid (show rowv.length + [Value.slice Av lf.length cv].length ≤ maxLen from by simp only [List.length_singleton, Hrl.out, maxLen]; omega)
  have Q2 := Lib.hid (show (rowv.length + [Value.slice Av lf.length cv].length) * 24 ≤ 140737488355328 from by simp only [List.length_singleton, Hrl.out]; omega)
  clear hW
  refine hK.out _ _ ?_ (fun hSS => ?_)
  · first | go_keep | (refine ⟨?_, ?_, ?_⟩ <;> first | assumption | (simp [*]; done))
  clear hK
  try simp only [Act.put, List.getElem_toArray, List.getElem_cons_succ, List.getElem_cons_zero, List.setIfInBounds_toArray, List.set_cons_zero, List.set_cons_succ]
  refine wpHd_one (i := 24) rfl (by kernel_rfl) (fun K hK => ?_)
  refine step_append_row _ (by rfl) _ _ 22 26 (by rfl) frameInfo (by rfl) Try.underlying22 (.slice (some ⟨g, 0, none⟩) m cq1) rowv (by rfl) hrowW (some ⟨w1.heap.size, 0, none⟩) 1 1 [.slice Av lf.length cv] (by rfl) rfl hsrcW (by simp [Value.oneCell']) Q1.out Q2.out ?_
  intro v2 w2 hrow2 hgrow2 hown2 hold2
  obtain ⟨A2, c2, hv2, hs1, hs2⟩ := hrow2.shape
  have Hrow2 := Lib.hid hrow2
  have Hgrow2 := Lib.hid hgrow2
  have Hown2 := Lib.hid hown2
  have m0 := hgrow2.cell (HW.out.cell n0 id) Ht2.out
  have m1 := hgrow2.cell (HW.out.cell n1 id) Ht1.out
  have m2 := hgrow2.free (HW.out.cell n1 id) Ht1.out (HW.out.free n1 id nf)
  have m3 : w2.cell? ⟨g, i.toNat, none⟩ = some f := by
    obtain ⟨g5, c5, e5, h5, _⟩ := hold2.cell (i := i.toNat) (u := f) Hat.out
    injection e5 with e5
    injection e5 with e5
    injection e5 with e5
    rw [e5]; exact h5
  clear hs1 hs2 hrow2 hgrow2 hown2 hold2
  generalize (rowv ++ [Value.slice Av lf.length cv]).length = ne at *
  subst hv2
  refine hK.out _ _ ?_ (fun hSS => ?_)
  · first | go_keep | (refine ⟨?_, ?_, ?_⟩ <;> first | assumption | (simp [*]; done))
  clear hK
  try simp only [Act.put, List.getElem_toArray, List.getElem_cons_succ, List.getElem_cons_zero, List.setIfInBounds_toArray, List.set_cons_zero, List.set_cons_succ]
  refine wpHd_end (by kernel_rfl) ?_
  clear hSS hrowW hsrcW n0' n1' n3' n0'' n1'' n3'' m3 hov
  go_wp2
  have hnp : NetPost 75 base nb F H (c.set way.toNat (c.row way.toNat ++ [lf])) w (w2.setCell ⟨wb1, way.toNat, none⟩ (.slice A2 ne c2)) := by
    refine HA.out.push (w1 := w1) (wA := w1.alloc (.cells #[.slice Av lf.length cv] 26)) (f := .slice Av lf.length cv) hjv hbase (by rw [Hm.out]; omega) Hov.out Hbv.out (fun x hx => .inr (Hnew.out x hx)) ((Only.refl _ _).alloc _) ?_ ?_ ?_ Hown1.out
    · rw [Hrv.out]; exact Hrow2.out
    · rw [Hev.out]; exact Hgrow2.out
    · rw [Hev.out]; exact Hown2.out
  have Hnp := Lib.hid hnp
  clear hnp
  go_ret
  exact ⟨rfl, by rw [Hlf.out]; exact Hnp.out⟩
end
end Go.Proofs.Ytlagccfllnhgbaa
