/- A store's journal where it is empty; Open there; Read. Printed by std.py. -/
import Derived.Test.YtcphifphidcbaaaGreatStb
import Derived.Test.YtcphifphidcbaaaGreatSet
namespace Go.Proofs.YtcphifphidcbaaaGreat
open Go.RowKit Go.ChangeShapes Go.WideShapes
set_option linter.unusedVariables false
set_option linter.unusedSimpArgs false
theorem results_cells3 {P : Program} {fn : Func} {p q u : Tmp} {ty ty2 : TypeId} (h : fn.results = #[.cell p ty, .cell q ty2, .tmp u]) (tmps : Array Value) (w : World) (g : Nat) (t : TypeId) (cs : Array Value) (fr : Nat × Nat) (d : TypeDesc) (a : Addr) (v : Value)
    (hp : tmps.getD p undef = .pointer (some ⟨g, 0, none⟩)) (hg : w.heap[g]? = some (.cells cs t fr))
    (hu : P.underlying ty = some d) (hd : (match d with | .struct _ | .array _ _ => true | _ => false) = true) (hi : (P.info? ty).map (·.size) = some cs.size)
    (hq : tmps.getD q undef = .pointer (some a)) (hl : (loadVar ty2 a).run P w = .ok v w) :
    (results fn tmps).run P w = .ok (.tuple #[.agg cs, v, tmps.getD u undef]) w := by
  have hp' : tmps[p]?.getD undef = .pointer (some ⟨g, 0, none⟩) := by simpa using hp
  have hq' : tmps[q]?.getD undef = .pointer (some a) := by simpa using hq
  simp [results, h, hp', hq', asAddr, run_loadVar_row w g t ty cs fr d hg hu hd hi, hl, Sem.run_bind, Result.andThen]
def zWr : Array Value := #[.int .i64 0, .int .i64 0, .int .i64 0, .int .i64 0, .int .i64 0, .slice none 0 0]
section
set_option maxHeartbeats 4000000
set_option maxRecDepth 100000
variable {w : World} {sb db lb : Nat} {V : Nat → Value} {sh : Nat → Int} {d : DskS}
theorem stext_off0 {r base : Nat} {b : List Int} {p : Nat} (size : Int) (h : Rdr' w r base b p false) :
    Calls Tryz.prog 130 #[.pointer (some ⟨r, 0, none⟩), .int .i64 size] w fun e w' => e = .returned (.slice none 0 0) ∧ w = w' := by
  obtain ⟨A, cp, h1, h2, h3, h4⟩ := h
  have x2 : w.cell? ⟨r, 2, none⟩ = some (.bool false) := h1.cellAt rfl
  clear h1 h2 h3 h4
  go_enter Tryz.func130, Tryz.ntmps130
  go_wp2_with fail
  go_ret
  exact ⟨rfl, rfl⟩
/-- the places that are read into, as long as nothing was read -/
structure JrI (w0 : World) (bs r wb vb pb : Nat) (k : Nat) (W : World) : Prop where
  rd : Rdr' W r bs [] 0 (k == 0)
  nb : wb < bs ∧ vb < bs ∧ w0.heap.size ≤ bs
  wr : Box W wb 165 zWr
  ve : Box W vb 3 #[.int .i64 0]
  pl : Box W pb 202 #[.pointer (some ⟨wb, 0, none⟩), .pointer (some ⟨wb, 1, none⟩), .pointer (some ⟨wb, 2, none⟩), .pointer (some ⟨wb, 3, none⟩), .pointer (some ⟨wb, 4, none⟩), .pointer (some ⟨vb, 0, none⟩)]
  on : Only Non w0 W
  n1 : w0.heap.size ≤ wb ∧ w0.heap.size ≤ vb ∧ w0.heap.size ≤ pb
  n2 : r ≠ wb ∧ r ≠ vb ∧ r ≠ pb ∧ wb ≠ vb ∧ wb ≠ pb ∧ vb ≠ pb
theorem snum_nil (k : Nat) : sNum [] 0 (k == 0) = (0, 0, false) := by
  cases k with
  | zero => rfl
  | succ n => rfl
theorem zWr_set (k : Nat) (hk : k < 5) : zWr.setIfInBounds k (.int .i64 0) = zWr := by
  rcases (show k = 0 ∨ k = 1 ∨ k = 2 ∨ k = 3 ∨ k = 4 by omega) with rfl | rfl | rfl | rfl | rfl <;> rfl
def jrG (wb vb k : Nat) : Nat := if k = 5 then vb else wb
def jrO (k : Nat) : Nat := if k = 5 then 0 else k
theorem jr_step {w0 W : World} {bs r wb vb pb k : Nat} (hk : k < 6) (h : JrI w0 bs r wb vb pb k W) :
    (∃ g o, (some ⟨pb, 0, none⟩ : Option Addr) = some ⟨g, o, none⟩ ∧ W.cell? ⟨g, o + k, none⟩ = some (.pointer (some ⟨jrG wb vb k, jrO k, none⟩))) ∧
      Calls Tryz.prog 129 #[.pointer (some ⟨r, 0, none⟩)] W fun e w' => ∃ x : Int, e = .returned (.int .i64 x) ∧ (∃ u, w'.cell? ⟨jrG wb vb k, jrO k, none⟩ = some u) ∧ w'.frozen? ⟨jrG wb vb k, jrO k, none⟩ = false ∧ JrI w0 bs r wb vb pb (k + 1) (w'.setCell ⟨jrG wb vb k, jrO k, none⟩ (.int .i64 x)) := by
  refine ⟨⟨pb, 0, rfl, ?_⟩, ?_⟩
  · rw [Nat.zero_add]
    rcases (show k = 0 ∨ k = 1 ∨ k = 2 ∨ k = 3 ∨ k = 4 ∨ k = 5 by omega) with rfl | rfl | rfl | rfl | rfl | rfl <;> exact h.pl.cellAt rfl
  · refine (snum_any h.rd (fun _ => Nat.zero_le _) (fun x hx => by cases hx)).mono ?_
    rintro e w' ⟨rfl, hr, ho⟩
    rw [snum_nil] at hr ⊢
    obtain ⟨a1, a2, a3, a4, a5, a6⟩ := h.n2
    have hw := ho.box h.wr (show ¬ wb = r from fun e => a1 e.symm)
    have hv := ho.box h.ve (show ¬ vb = r from fun e => a2 e.symm)
    have hp := ho.box h.pl (show ¬ pb = r from fun e => a3 e.symm)
    have hon : Only Non w0 w' := h.on.trans' ho fun q hq => .inr (by obtain ⟨_, _, _, _, _, h5⟩ := h.rd; have h6 : q = r := hq; have := h.nb; omega)
    obtain ⟨n1, n2, n3⟩ := h.n1
    by_cases e5 : k = 5
    · subst e5
      have j : Only (Just vb) w' (w'.setCell ⟨vb, 0, none⟩ (.int .i64 (0 : Nat))) := (Only.refl (Just vb) w').setCell (p := ⟨vb, 0, none⟩) (.inl (show Just vb vb from rfl)) _
      refine ⟨_, rfl, ⟨_, hv.cellAt rfl⟩, hv.free _, hr.only j fun q h1 h2 e => ?_, h.nb, j.box hw a4, hv.store 0 _, j.box hp fun e => a6 e.symm, hon.trans' j fun q hq => .inr (by have h6 : q = vb := hq; omega), h.n1, h.n2⟩
      have h6 : q = vb := e; have := h.nb; omega
    · have eg : jrG wb vb k = wb := if_neg e5
      have eo : jrO k = k := if_neg e5
      rw [eg, eo]
      have hk5 : k < 5 := by omega
      have j : Only (Just wb) w' (w'.setCell ⟨wb, k, none⟩ (.int .i64 (0 : Nat))) := (Only.refl (Just wb) w').setCell (p := ⟨wb, k, none⟩) (.inl (show Just wb wb from rfl)) _
      have hz := hw.store k (.int .i64 (0 : Nat))
      rw [show ((0 : Nat) : Int) = 0 from rfl, zWr_set k hk5] at hz
      refine ⟨_, rfl, ?_, hw.free _, hr.only j fun q h1 h2 e => ?_, h.nb, hz, j.box hv fun e => a4 e.symm, j.box hp fun e => a5 e.symm, hon.trans' j fun q hq => .inr (by have h6 : q = wb := hq; omega), h.n1, h.n2⟩
      · rcases (show k = 0 ∨ k = 1 ∨ k = 2 ∨ k = 3 ∨ k = 4 by omega) with rfl | rfl | rfl | rfl | rfl <;> exact ⟨_, hw.cellAt rfl⟩
      · have h6 : q = wb := e; have := h.nb; omega
theorem sto_journal0 (he : d.sec 0 = []) (h : StoB w sb db lb V sh d) :
    Calls Tryz.prog 92 #[.pointer (some ⟨sb, 0, none⟩)] w fun e w' => e = .returned (.tuple #[.agg zWr, .int .i64 0, .bool false]) ∧ Only Non w w' := by
  have HH := Lib.hid h
  have HE := Lib.hid he
  clear h he
  go_enter Tryz.func92, Tryz.ntmps92
  go_upto_region 1 with fail
  have al1 := (Only.refl Non w).alloc (.cells #[.int .i64 0, .int .i64 0, .int .i64 0, .int .i64 0, .int .i64 0, .slice none 0 0] 165)
  have b1 := Box.fresh w 165 #[.int .i64 0, .int .i64 0, .int .i64 0, .int .i64 0, .int .i64 0, .slice none 0 0]
  have al2 := (Only.refl Non (w.alloc (.cells #[.int .i64 0, .int .i64 0, .int .i64 0, .int .i64 0, .int .i64 0, .slice none 0 0] 165))).alloc (.cells #[.int .i64 0] 3)
  have b2 := Box.fresh (w.alloc (.cells #[.int .i64 0, .int .i64 0, .int .i64 0, .int .i64 0, .int .i64 0, .slice none 0 0] 165)) 3 #[.int .i64 0]
  rw [show (w.alloc (.cells #[.int .i64 0, .int .i64 0, .int .i64 0, .int .i64 0, .int .i64 0, .slice none 0 0] 165)).heap.size = w.heap.size + 1 by simp] at b2
  have HW := Lib.hid (al2.box b1 id)
  have HV := Lib.hid b2
  have HO := Lib.hid (al1.trans al2)
  have HSZ := Lib.hid (show ((w.alloc (.cells #[.int .i64 0, .int .i64 0, .int .i64 0, .int .i64 0, .int .i64 0, .slice none 0 0] 165)).alloc (.cells #[.int .i64 0] 3)).heap.size = w.heap.size + 2 by simp)
  change Code.wp _ _ _ _ ((w.alloc (.cells #[.int .i64 0, .int .i64 0, .int .i64 0, .int .i64 0, .int .i64 0, .slice none 0 0] 165)).alloc (.cells #[.int .i64 0] 3))
  clear al1 al2 b1 b2
  generalize (w.alloc (.cells #[.int .i64 0, .int .i64 0, .int .i64 0, .int .i64 0, .int .i64 0, .slice none 0 0] 165)).alloc (.cells #[.int .i64 0] 3) = W1 at *
  obtain ⟨wb, hwb⟩ : ∃ wb, wb = w.heap.size := ⟨_, rfl⟩
  have HWB := Lib.hid hwb
  rw [← hwb] at HW HV HSZ ⊢
  clear hwb
  have HR := Lib.hid (sto_read (by decide : 0 < 64) (HH.out.keep HO.out).box (HH.out.keep HO.out).dsk)
  go_upto_region 2 with (go_at_call 127; refine HR.out.mono ?_; rintro e W2 ⟨r, rfl, hr2, ho2⟩)
  have HR2 := Lib.hid hr2
  have HO2 := Lib.hid (HO.out.trans ho2)
  have HW2 := Lib.hid (ho2.box HW.out id)
  have HV2 := Lib.hid (ho2.box HV.out id)
  have HRL := Lib.hid (show W1.heap.size ≤ r ∧ r < W2.heap.size by obtain ⟨_, _, h1, _, _, h4⟩ := hr2; exact ⟨h4, h1.lt⟩)
  clear hr2 ho2 HR HW HV HO
  go_wp2_with fail
  have al3 := (Only.refl Non W2).alloc (.cells #[.pointer (some ⟨wb, 0, none⟩), .pointer (some ⟨wb, 1, none⟩), .pointer (some ⟨wb, 2, none⟩), .pointer (some ⟨wb, 3, none⟩), .pointer (some ⟨wb, 4, none⟩), .pointer (some ⟨wb + 1, 0, none⟩)] 202)
  have b3 := Box.fresh W2 202 #[.pointer (some ⟨wb, 0, none⟩), .pointer (some ⟨wb, 1, none⟩), .pointer (some ⟨wb, 2, none⟩), .pointer (some ⟨wb, 3, none⟩), .pointer (some ⟨wb, 4, none⟩), .pointer (some ⟨wb + 1, 0, none⟩)]
  have hw2 := HW2.out.lt
  have hv2 := HV2.out.lt
  have HJ := Lib.hid (show JrI w W1.heap.size r wb (wb + 1) W2.heap.size 0 (W2.alloc (.cells #[.pointer (some ⟨wb, 0, none⟩), .pointer (some ⟨wb, 1, none⟩), .pointer (some ⟨wb, 2, none⟩), .pointer (some ⟨wb, 3, none⟩), .pointer (some ⟨wb, 4, none⟩), .pointer (some ⟨wb + 1, 0, none⟩)] 202)) from
    { rd := by rw [← HE.out]; exact HR2.out.only al3 fun _ _ _ => id
      nb := by have h1 := HSZ.out; have h2 := HWB.out; omega
      wr := al3.box HW2.out id
      ve := al3.box HV2.out id
      pl := b3
      on := HO2.out.trans al3
      n1 := by have h2 := HWB.out; have h3 := HO2.out.size; omega
      n2 := by have h1 := HSZ.out; have h2 := HRL.out; omega })
  clear al3 b3 hw2 hv2
  generalize W2.alloc (.cells #[.pointer (some ⟨wb, 0, none⟩), .pointer (some ⟨wb, 1, none⟩), .pointer (some ⟨wb, 2, none⟩), .pointer (some ⟨wb, 3, none⟩), .pointer (some ⟨wb, 4, none⟩), .pointer (some ⟨wb + 1, 0, none⟩)] 202) = W3 at *
  have HAL := Lib.hid (sall_any r 6 6 (some ⟨W2.heap.size, 0, none⟩) (jrG wb (wb + 1)) jrO (JrI w W1.heap.size r wb (wb + 1) W2.heap.size) W3 (by decide) HJ.out fun k W hk hj => jr_step hk hj)
  refine HAL.out.mono ?_
  rintro e W4 ⟨rfl, hj4⟩
  have HJ4 := Lib.hid hj4
  have HT := Lib.hid (stext_off0 (sh 1) (show Rdr' W4 r W1.heap.size [] 0 false from hj4.rd))
  have hs4 : W4.cell? ⟨sb, 1, none⟩ = some (.int .i64 (sh 1)) := hj4.on.cell (sto_shape HH.out).2.1 id
  have hb4 : W4.cell? ⟨wb, 5, none⟩ = some (.slice none 0 0) := hj4.wr.cellAt rfl
  have hf4 : W4.frozen? ⟨wb, 5, none⟩ = false := hj4.wr.free _
  clear hj4 HAL HJ
  go_upto_region 4 with (go_at_call 130; refine HT.out.mono ?_; rintro e W5 ⟨rfl, rfl⟩)
  have j5 : Only (Just wb) W4 (W4.setCell ⟨wb, 5, none⟩ (.slice none 0 0)) := (Only.refl (Just wb) W4).setCell (p := ⟨wb, 5, none⟩) (.inl (show Just wb wb from rfl)) _
  have HW5 := Lib.hid (show Box (W4.setCell ⟨wb, 5, none⟩ (.slice none 0 0)) wb 165 zWr from HJ4.out.wr.store 5 _)
  have HV5 := Lib.hid (j5.box HJ4.out.ve (show ¬ wb + 1 = wb by omega))
  have HRW := Lib.hid (show ¬ r = wb from HJ4.out.n2.1)
  have HRV := Lib.hid (show ¬ r = wb + 1 from HJ4.out.n2.2.1)
  have HO5 := Lib.hid (HJ4.out.on.trans' j5 fun k hk => .inr (by have h1 : k = wb := hk; have := HWB.out; omega))
  have z2 : (W4.setCell ⟨wb, 5, none⟩ (.slice none 0 0)).drew.cell? ⟨r, 2, none⟩ = some (.bool false) := by
    obtain ⟨_, _, h1, _⟩ := HJ4.out.rd
    exact j5.cell (h1.cellAt rfl) (show ¬ r = wb from HRW.out)
  change Code.wp _ _ _ _ (W4.setCell ⟨wb, 5, none⟩ (.slice none 0 0))
  clear j5 hs4 hb4 hf4 HT
  generalize W4.setCell ⟨wb, 5, none⟩ (.slice none 0 0) = W5 at *
  refine wp_region_tail (S := (fun w' : World => Box w' wb 165 zWr ∧ Box w' (wb + 1) 3 #[.int .i64 0] ∧ w'.cell? ⟨r, 2, none⟩ = some (.bool false) ∧ Only Non w w')) 34 (by kernel_rfl) (by kernel_rfl) ?_ ?_
  · first | exact ⟨HW5.out.drew, HV5.out.drew, z2, HO5.out.drew⟩ | exact hS32 | exact hS33
  intro hSS
  refine wpHd_take (i := 0) (v := .agg zWr) (by kernel_rfl) rfl (by kernel_rfl) (fun _ _ _ h => h) (yieldsIf_load_mid (by rfl) 165 _ rfl wb 0 rfl zWr.toList _ (fun w hw j v hj => by rw [Nat.zero_add]; exact hw.1.cellAt (by rw [← Array.getElem?_toList]; exact hj)) Tryz.underlying165 rfl (by kernel_rfl)) (by assumption) ?_
  try simp only [Act.put, List.getElem_toArray, List.getElem_cons_succ, List.getElem_cons_zero, List.setIfInBounds_toArray, List.set_cons_zero, List.set_cons_succ]
  refine wpHd_take (i := 1) (v := .int .i64 0) (by kernel_rfl) rfl (by kernel_rfl) (fun _ _ _ h => h) (Or.inl ⟨by rfl, ?_⟩) (by assumption) ?_
  · intro w hSw; have hv1 := hSw.2.1.cellAt (i := 0) rfl; clear hSw; go_simp; (try with_reducible rfl)
  try simp only [Act.put, List.getElem_toArray, List.getElem_cons_succ, List.getElem_cons_zero, List.setIfInBounds_toArray, List.set_cons_zero, List.set_cons_succ]
  refine wpHd_take (i := 2) (v := ?_) (by kernel_rfl) rfl (by kernel_rfl) (fun _ _ _ h => h) (Or.inl ⟨by rfl, ?_⟩) (by assumption) ?_
  rotate_left
  · intro w hSw; (try dsimp only at hSw); go_simp; (try with_reducible rfl)
  try simp only [Act.put, List.getElem_toArray, List.getElem_cons_succ, List.getElem_cons_zero, List.setIfInBounds_toArray, List.set_cons_zero, List.set_cons_succ]
  refine wpHd_take (i := 3) (v := ?_) (by kernel_rfl) rfl (by kernel_rfl) (fun _ _ _ h => h) (Or.inl ⟨by rfl, ?_⟩) (by assumption) ?_
  rotate_left
  · intro w hSw; (try dsimp only at hSw); go_simp; (try with_reducible rfl)
  try simp only [Act.put, List.getElem_toArray, List.getElem_cons_succ, List.getElem_cons_zero, List.setIfInBounds_toArray, List.set_cons_zero, List.set_cons_succ]
  refine wpHd_take (i := 4) (v := ?_) (by kernel_rfl) rfl (by kernel_rfl) (fun _ _ _ h => h) (Or.inl ⟨by rfl, ?_⟩) (by assumption) ?_
  rotate_left
  · intro w hSw; (try dsimp only at hSw); go_simp; (try with_reducible rfl)
  try simp only [Act.put, List.getElem_toArray, List.getElem_cons_succ, List.getElem_cons_zero, List.setIfInBounds_toArray, List.set_cons_zero, List.set_cons_succ]
  refine wpHd_take (i := 5) (v := ?_) (by kernel_rfl) rfl (by kernel_rfl) (fun _ _ _ h => h) (Or.inl ⟨by rfl, ?_⟩) (by assumption) ?_
  rotate_left
  · intro w hSw; (try dsimp only at hSw); go_simp; (try with_reducible rfl)
  try simp only [Act.put, List.getElem_toArray, List.getElem_cons_succ, List.getElem_cons_zero, List.setIfInBounds_toArray, List.set_cons_zero, List.set_cons_succ]
  refine wpHd_take (i := 6) (v := ?_) (by kernel_rfl) rfl (by kernel_rfl) (fun _ _ _ h => h) (Or.inl ⟨by rfl, ?_⟩) (by assumption) ?_
  rotate_left
  · intro w hSw; (try dsimp only at hSw); go_simp; (try with_reducible rfl)
  try simp only [Act.put, List.getElem_toArray, List.getElem_cons_succ, List.getElem_cons_zero, List.setIfInBounds_toArray, List.set_cons_zero, List.set_cons_succ]
  refine wpHd_take (i := 7) (v := undef) (by kernel_rfl) rfl (by kernel_rfl) (fun _ _ _ h => h) (Or.inr ⟨by rfl, rfl⟩) (by assumption) ?_
  try simp only [Act.put, List.getElem_toArray, List.getElem_cons_succ, List.getElem_cons_zero, List.setIfInBounds_toArray, List.set_cons_zero, List.set_cons_succ]
  refine wpHd_take (i := 8) (v := undef) (by kernel_rfl) rfl (by kernel_rfl) (fun _ _ _ h => h) (Or.inr ⟨by rfl, rfl⟩) (by assumption) ?_
  try simp only [Act.put, List.getElem_toArray, List.getElem_cons_succ, List.getElem_cons_zero, List.setIfInBounds_toArray, List.set_cons_zero, List.set_cons_succ]
  refine wpHd_take (i := 9) (v := undef) (by kernel_rfl) rfl (by kernel_rfl) (fun _ _ _ h => h) (Or.inr ⟨by rfl, rfl⟩) (by assumption) ?_
  try simp only [Act.put, List.getElem_toArray, List.getElem_cons_succ, List.getElem_cons_zero, List.setIfInBounds_toArray, List.set_cons_zero, List.set_cons_succ]
  refine wpHd_take (i := 10) (v := undef) (by kernel_rfl) rfl (by kernel_rfl) (fun _ _ _ h => h) (Or.inr ⟨by rfl, rfl⟩) (by assumption) ?_
  try simp only [Act.put, List.getElem_toArray, List.getElem_cons_succ, List.getElem_cons_zero, List.setIfInBounds_toArray, List.set_cons_zero, List.set_cons_succ]
  refine wpHd_take (i := 11) (v := undef) (by kernel_rfl) rfl (by kernel_rfl) (fun _ _ _ h => h) (Or.inr ⟨by rfl, rfl⟩) (by assumption) ?_
  try simp only [Act.put, List.getElem_toArray, List.getElem_cons_succ, List.getElem_cons_zero, List.setIfInBounds_toArray, List.set_cons_zero, List.set_cons_succ]
  refine wpHd_one (i := 12) rfl (by kernel_rfl) (fun K hK => ?_)
  rw [if_neg (by first | (simp [Region.wanted, yielded]; done) | (simp [Region.wanted, yielded]; intro h; cases h))]
  refine hK.out _ _ ?_ (fun hSS => ?_)
  · first | exact ⟨HW5.out.drew, HV5.out.drew, z2, HO5.out.drew⟩ | exact hS32 | exact hS33
  clear hK
  try simp only [Act.put, List.getElem_toArray, List.getElem_cons_succ, List.getElem_cons_zero, List.setIfInBounds_toArray, List.set_cons_zero, List.set_cons_succ]
  refine wpHd_take (i := 13) (v := ?_) (by kernel_rfl) rfl (by kernel_rfl) (fun _ _ _ h => h) (Or.inl ⟨by rfl, ?_⟩) (by assumption) ?_
  rotate_left
  · intro w hSw; (try dsimp only at hSw); go_simp; (try with_reducible rfl)
  try simp only [Act.put, List.getElem_toArray, List.getElem_cons_succ, List.getElem_cons_zero, List.setIfInBounds_toArray, List.set_cons_zero, List.set_cons_succ]
  refine wpHd_take (i := 14) (v := ?_) (by kernel_rfl) rfl (by kernel_rfl) (fun _ _ _ h => h) (Or.inl ⟨by rfl, ?_⟩) (by assumption) ?_
  rotate_left
  · intro w hSw; (try dsimp only at hSw); go_simp; (try with_reducible rfl)
  try simp only [Act.put, List.getElem_toArray, List.getElem_cons_succ, List.getElem_cons_zero, List.setIfInBounds_toArray, List.set_cons_zero, List.set_cons_succ]
  refine wpHd_take (i := 15) (v := undef) (by kernel_rfl) rfl (by kernel_rfl) (fun _ _ _ h => h) (Or.inr ⟨by rfl, rfl⟩) (by assumption) ?_
  try simp only [Act.put, List.getElem_toArray, List.getElem_cons_succ, List.getElem_cons_zero, List.setIfInBounds_toArray, List.set_cons_zero, List.set_cons_succ]
  refine wpHd_take (i := 16) (v := undef) (by kernel_rfl) rfl (by kernel_rfl) (fun _ _ _ h => h) (Or.inr ⟨by rfl, rfl⟩) (by assumption) ?_
  try simp only [Act.put, List.getElem_toArray, List.getElem_cons_succ, List.getElem_cons_zero, List.setIfInBounds_toArray, List.set_cons_zero, List.set_cons_succ]
  refine wpHd_take (i := 17) (v := undef) (by kernel_rfl) rfl (by kernel_rfl) (fun _ _ _ h => h) (Or.inr ⟨by rfl, rfl⟩) (by assumption) ?_
  try simp only [Act.put, List.getElem_toArray, List.getElem_cons_succ, List.getElem_cons_zero, List.setIfInBounds_toArray, List.set_cons_zero, List.set_cons_succ]
  refine wpHd_take (i := 18) (v := undef) (by kernel_rfl) rfl (by kernel_rfl) (fun _ _ _ h => h) (Or.inr ⟨by rfl, rfl⟩) (by assumption) ?_
  try simp only [Act.put, List.getElem_toArray, List.getElem_cons_succ, List.getElem_cons_zero, List.setIfInBounds_toArray, List.set_cons_zero, List.set_cons_succ]
  refine wpHd_take (i := 19) (v := undef) (by kernel_rfl) rfl (by kernel_rfl) (fun _ _ _ h => h) (Or.inr ⟨by rfl, rfl⟩) (by assumption) ?_
  try simp only [Act.put, List.getElem_toArray, List.getElem_cons_succ, List.getElem_cons_zero, List.setIfInBounds_toArray, List.set_cons_zero, List.set_cons_succ]
  refine wpHd_take (i := 20) (v := undef) (by kernel_rfl) rfl (by kernel_rfl) (fun _ _ _ h => h) (Or.inr ⟨by rfl, rfl⟩) (by assumption) ?_
  try simp only [Act.put, List.getElem_toArray, List.getElem_cons_succ, List.getElem_cons_zero, List.setIfInBounds_toArray, List.set_cons_zero, List.set_cons_succ]
  refine wpHd_take (i := 21) (v := undef) (by kernel_rfl) rfl (by kernel_rfl) (fun _ _ _ h => h) (Or.inr ⟨by rfl, rfl⟩) (by assumption) ?_
  try simp only [Act.put, List.getElem_toArray, List.getElem_cons_succ, List.getElem_cons_zero, List.setIfInBounds_toArray, List.set_cons_zero, List.set_cons_succ]
  refine wpHd_take (i := 22) (v := undef) (by kernel_rfl) rfl (by kernel_rfl) (fun _ _ _ h => h) (Or.inr ⟨by rfl, rfl⟩) (by assumption) ?_
  try simp only [Act.put, List.getElem_toArray, List.getElem_cons_succ, List.getElem_cons_zero, List.setIfInBounds_toArray, List.set_cons_zero, List.set_cons_succ]
  refine wpHd_take (i := 23) (v := ?_) (by kernel_rfl) rfl (by kernel_rfl) (fun _ _ _ h => h) (Or.inl ⟨by rfl, ?_⟩) (by assumption) ?_
  rotate_left
  · intro w hSw; (try dsimp only at hSw); go_simp; (try with_reducible rfl)
  try simp only [Act.put, List.getElem_toArray, List.getElem_cons_succ, List.getElem_cons_zero, List.setIfInBounds_toArray, List.set_cons_zero, List.set_cons_succ]
  refine wpHd_take (i := 24) (v := ?_) (by kernel_rfl) rfl (by kernel_rfl) (fun _ _ _ h => h) (Or.inl ⟨by rfl, ?_⟩) (by assumption) ?_
  rotate_left
  · intro w hSw; (try dsimp only at hSw); go_simp; (try with_reducible rfl)
  try simp only [Act.put, List.getElem_toArray, List.getElem_cons_succ, List.getElem_cons_zero, List.setIfInBounds_toArray, List.set_cons_zero, List.set_cons_succ]
  refine wpHd_take (i := 25) (v := undef) (by kernel_rfl) rfl (by kernel_rfl) (fun _ _ _ h => h) (Or.inr ⟨by rfl, rfl⟩) (by assumption) ?_
  try simp only [Act.put, List.getElem_toArray, List.getElem_cons_succ, List.getElem_cons_zero, List.setIfInBounds_toArray, List.set_cons_zero, List.set_cons_succ]
  refine wpHd_take (i := 26) (v := undef) (by kernel_rfl) rfl (by kernel_rfl) (fun _ _ _ h => h) (Or.inr ⟨by rfl, rfl⟩) (by assumption) ?_
  try simp only [Act.put, List.getElem_toArray, List.getElem_cons_succ, List.getElem_cons_zero, List.setIfInBounds_toArray, List.set_cons_zero, List.set_cons_succ]
  refine wpHd_take (i := 27) (v := ?_) (by kernel_rfl) rfl (by kernel_rfl) (fun _ _ _ h => h) (Or.inl ⟨by rfl, ?_⟩) (by assumption) ?_
  rotate_left
  · intro w hSw; (try dsimp only at hSw); go_simp; (try with_reducible rfl)
  try simp only [Act.put, List.getElem_toArray, List.getElem_cons_succ, List.getElem_cons_zero, List.setIfInBounds_toArray, List.set_cons_zero, List.set_cons_succ]
  refine wpHd_take (i := 28) (v := ?_) (by kernel_rfl) rfl (by kernel_rfl) (fun _ _ _ h => h) (Or.inl ⟨by rfl, ?_⟩) (by assumption) ?_
  rotate_left
  · intro w hSw; (try dsimp only at hSw); go_simp; (try with_reducible rfl)
  try simp only [Act.put, List.getElem_toArray, List.getElem_cons_succ, List.getElem_cons_zero, List.setIfInBounds_toArray, List.set_cons_zero, List.set_cons_succ]
  refine wpHd_take (i := 29) (v := undef) (by kernel_rfl) rfl (by kernel_rfl) (fun _ _ _ h => h) (Or.inr ⟨by rfl, rfl⟩) (by assumption) ?_
  try simp only [Act.put, List.getElem_toArray, List.getElem_cons_succ, List.getElem_cons_zero, List.setIfInBounds_toArray, List.set_cons_zero, List.set_cons_succ]
  refine wpHd_take (i := 30) (v := undef) (by kernel_rfl) rfl (by kernel_rfl) (fun _ _ _ h => h) (Or.inr ⟨by rfl, rfl⟩) (by assumption) ?_
  try simp only [Act.put, List.getElem_toArray, List.getElem_cons_succ, List.getElem_cons_zero, List.setIfInBounds_toArray, List.set_cons_zero, List.set_cons_succ]
  refine wpHd_take (i := 31) (v := ?_) (by kernel_rfl) rfl (by kernel_rfl) (fun _ _ _ h => h) (Or.inl ⟨by rfl, ?_⟩) (by assumption) ?_
  rotate_left
  · intro w hSw; (try dsimp only at hSw); go_simp; (try with_reducible rfl)
  try simp only [Act.put, List.getElem_toArray, List.getElem_cons_succ, List.getElem_cons_zero, List.setIfInBounds_toArray, List.set_cons_zero, List.set_cons_succ]
  refine wpHd_one (i := 32) rfl (by kernel_rfl) (fun K hK => ?_)
  refine wp_store_row 165 _ _ rfl wb zWr rfl rfl 165 _ hSS.1 (by kernel_rfl) rfl (by simp [zWr, Value.oneCell']) ?_
  have j32 : Only (Just wb) W5.drew (W5.drew.setRow wb zWr) := (Only.refl (Just wb) W5.drew).setRow' (.inl rfl) _
  have hS32 : Box (W5.drew.setRow wb zWr) wb 165 zWr ∧ Box (W5.drew.setRow wb zWr) (wb + 1) 3 #[.int .i64 0] ∧ (W5.drew.setRow wb zWr).cell? ⟨r, 2, none⟩ = some (.bool false) ∧ Only Non w (W5.drew.setRow wb zWr) := ⟨hSS.1.setRow' _, j32.box hSS.2.1 (show ¬ wb + 1 = wb by omega), j32.cell hSS.2.2.1 (show ¬ r = wb from HRW.out), hSS.2.2.2.trans' j32 fun k hk => .inr (by have h1 : k = wb := hk; have := HWB.out; omega)⟩
  clear j32
  refine hK.out _ _ ?_ (fun hSS => ?_)
  · first | exact ⟨HW5.out.drew, HV5.out.drew, z2, HO5.out.drew⟩ | exact hS32 | exact hS33
  clear hK
  try simp only [Act.put, List.getElem_toArray, List.getElem_cons_succ, List.getElem_cons_zero, List.setIfInBounds_toArray, List.set_cons_zero, List.set_cons_succ]
  refine wpHd_one (i := 33) rfl (by kernel_rfl) (fun K hK => ?_)
  have hv33 := hSS.2.1.cellAt (i := 0) rfl
  have hf33 := hSS.2.1.free 0
  go_simp
  have j33 : Only (Just (wb + 1)) (W5.drew.setRow wb zWr) ((W5.drew.setRow wb zWr).setCell ⟨wb + 1, 0, none⟩ (.int .i64 0)) := (Only.refl (Just (wb + 1)) _).setCell (p := ⟨wb + 1, 0, none⟩) (.inl (show Just (wb + 1) (wb + 1) from rfl)) _
  have hS33 : Box ((W5.drew.setRow wb zWr).setCell ⟨wb + 1, 0, none⟩ (.int .i64 0)) wb 165 zWr ∧ Box ((W5.drew.setRow wb zWr).setCell ⟨wb + 1, 0, none⟩ (.int .i64 0)) (wb + 1) 3 #[.int .i64 0] ∧ ((W5.drew.setRow wb zWr).setCell ⟨wb + 1, 0, none⟩ (.int .i64 0)).cell? ⟨r, 2, none⟩ = some (.bool false) ∧ Only Non w ((W5.drew.setRow wb zWr).setCell ⟨wb + 1, 0, none⟩ (.int .i64 0)) := ⟨j33.box hSS.1 (show ¬ wb = wb + 1 by omega), hSS.2.1.store 0 _, j33.cell hSS.2.2.1 (show ¬ r = wb + 1 from HRV.out), hSS.2.2.2.trans' j33 fun k hk => .inr (by have h1 : k = wb + 1 := hk; have := HWB.out; omega)⟩
  clear hv33 hf33 j33
  refine hK.out _ _ ?_ (fun hSS => ?_)
  · first | exact ⟨HW5.out.drew, HV5.out.drew, z2, HO5.out.drew⟩ | exact hS32 | exact hS33
  clear hK
  try simp only [Act.put, List.getElem_toArray, List.getElem_cons_succ, List.getElem_cons_zero, List.setIfInBounds_toArray, List.set_cons_zero, List.set_cons_succ]
  refine wpHd_end (by kernel_rfl) ?_
  have HS := Lib.hid hSS
  clear hSS hS32 hS33 z2
  go_wp2_with fail
  (try simp only [Exit.inBlock, Exit.then])
  refine bodyPost_ret (results_cells3 rfl _ _ wb _ zWr (0, 0) _ ⟨wb + 1, 0, none⟩ (.int .i64 0) rfl HS.out.1 Tryz.underlying165 rfl (by kernel_rfl) rfl (by have hv := HS.out.2.1.cellAt (i := 0) rfl; go_simp)) rfl ?_
  exact ⟨rfl, HS.out.2.2.2⟩
end
end Go.Proofs.YtcphifphidcbaaaGreat
