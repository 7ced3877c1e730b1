/- cache.New. -/
import Derived.Test.YtcphifphidcbaaaGreatCno
import Derived.Test.YtcphifphidcbaaaGreatTwo
import Derived.Deep.MidRow
namespace Go.Proofs.YtcphifphidcbaaaGreat
open Go.RowKit Go.ChangeShapes Go.WideShapes
set_option linter.unusedVariables false
set_option linter.unusedSimpArgs false
theorem wpList_build' {P : Program} {ops : Array Oper} {rest : List Oper} {o : Oper} {a : Act} {w : World} {Q : Exit → Act → World → Prop} (hgd : o.guard = none) (t : TypeId) (parts : Array (Nat × Operand)) (ho : o.op = .build t parts)
    (pv : List (Nat × Value)) (cells : Array Value) (hf : (parts.map fun (i, x) => (i, a.eval x)).toList = pv) (hb : P.built t pv = some cells) (h : wpList P ops Q rest (a.put o.dst (.agg cells)) w) : wpList P ops Q (o :: rest) a w :=
  wpList_plain hgd fun K hK => Go.wp_build t parts ho (by rw [hf, hb]; rfl) (by rw [hf, hb]; exact hK _ _ h)
theorem built_cch (c : CfgA) (hv : Value) (A : Option Addr) (n cp : Nat) (tier : Int) (t : TypeId) (x : Value) (mb : Nat) : Tryz.prog.built 129 [(0, .agg (cfgCells c (.slice A n cp))), (1, .int .i64 tier), (2, .iface t x), (3, .map (some mb))] = some (cfgCells c (.slice A n cp) ++ #[.int .i64 tier, .iface t x, .map (some mb)]) := by kernel_rfl
def NPost (K : OKind) (c : CfgA) (tier : Nat) (w : World) (e : Ending) (w' : World) : Prop :=
  ∃ i cb mb hv, e = .returned (.tuple #[.pointer (some ⟨cb, 0, none⟩), .int .i64 0]) ∧ CchB K i w' cb mb c hv tier K.s0 (fun _ => none) ∧ (∀ k, K.F i k → w.heap.size ≤ k) ∧ w.heap.size ≤ cb ∧ w.heap.size ≤ mb ∧ (0 < c.h.length → ∀ k, ownB hv k → w.heap.size ≤ k) ∧ Only Non w w'
section
set_option maxHeartbeats 4000000
set_option maxRecDepth 100000
theorem HintsAt.far {S : Nat → Prop} {w w' : World} {A : Option Addr} {n c : Nat} {l : List HintA} (h : HintsAt w A n c l) (ho : Only S w w') (hS : 0 < l.length → ∀ k, ownB (.slice A n c) k → ¬ S k) : HintsAt w' A n c l :=
  ⟨h.len, h.cap, h.max, fun i hi => by
    obtain ⟨g, o, e, hg, h0, h1, h2, h3⟩ := h.at_ i hi
    have hn := hS (by omega) g (by rw [e]; exact ownB_slice.2 rfl)
    exact ⟨g, o, e, Nat.lt_of_lt_of_le hg ho.size, ho.cell h0 hn, ho.cell h1 hn, ho.cell h2 hn, ho.cell h3 hn⟩⟩
theorem cch_new {KO : OKind} {c : CfgA} {tier : Nat} (hK : KO.Made c tier) (hP : CfgP c) (h1 : 1 ≤ tier) (h3 : tier ≤ 3) {A : Option Addr} {n cp : Nat} (w : World) (hin : HintsAt w A n cp c.h) :
    Calls Tryz.prog 48 #[.agg (cfgCells c (.slice A n cp)), .int .i64 tier] w (NPost KO c tier w) := by
  have HK := Lib.hid hK
  have HP := Lib.hid hP
  have hlen : c.h.length ≤ 100 := by have := hP.hs.2.2; omega
  have HL := Lib.hid hlen
  have HI := Lib.hid hin
  have ht1 : ¬ (tier : Int) < 1 := by omega
  have ht3 : ¬ (3 : Int) < tier := by omega
  clear hK hP hlen hin
  go_enter Tryz.func48, Tryz.ntmps48
  go_upto_region 1 with fail
  have HB1 := Lib.hid (Box.fresh w 42 (cfgCells c (.slice A n cp)))
  have HO1 := Lib.hid ((Only.refl Non w).alloc (.cells (cfgCells c (.slice A n cp)) 42))
  have HI1 := Lib.hid (HI.out.keep HO1.out)
  generalize w.alloc (.cells (cfgCells c (.slice A n cp)) 42) = W1 at *
  obtain ⟨bb, hbb⟩ : ∃ bb, bb = w.heap.size := ⟨_, rfl⟩
  have HBB := Lib.hid (show w.heap.size ≤ bb from Nat.le_of_eq hbb.symm)
  rw [← hbb] at HB1 ⊢
  clear hbb HI
  have hr := right_any A n cp c W1 HI1.out
  rw [cfgB_yes HP.out] at hr
  have HR := Lib.hid hr
  clear hr
  go_upto_region 3 with (first | (refine wpList_load_row rfl 42 _ rfl bb rfl 42 (cfgCells c (.slice A n cp)) (0, 0) _ HB1.out Tryz.underlying42 rfl (by kernel_rfl) ?_) | (go_at_call 83; refine HR.out.mono ?_; rintro e W2 ⟨rfl, ho2⟩))
  have HB2 := Lib.hid (ho2.box HB1.out id)
  have HI2 := Lib.hid (HI1.out.keep ho2)
  have HO2 := Lib.hid (HO1.out.trans ho2)
  clear ho2 HB1 HI1 HO1 HR
  have hb16 : W2.cell? ⟨bb, 16, none⟩ = some (.slice A n cp) := HB2.out.cellAt (cfgCells_hs c _)
  have HCL := Lib.hid (hclone_any W2 HI2.out HL.out)
  go_upto_region 4 with (go_at_call 49; refine HCL.out.mono ?_; rintro e W3 ⟨B, cp2, rfl, hh3, ho3, hown3⟩; have HB3 := Lib.hid (ho3.box HB2.out id); have hb16' : W3.cell? ⟨bb, 16, none⟩ = some (.slice A n cp) := ho3.cell hb16 id; have hf16 := HB3.out.free 16)
  have hO4 : Only Non w (W3.setCell ⟨bb, 16, none⟩ (.slice B c.h.length cp2)) := (HO2.out.trans ho3).setCell (p := ⟨bb, 16, none⟩) (.inr HBB.out) _
  have hB4 : Box (W3.setCell ⟨bb, 16, none⟩ (.slice B c.h.length cp2)) bb 42 (cfgCells c (.slice B c.h.length cp2)) := HB3.out.store 16 (.slice B c.h.length cp2)
  have hH4 : HintsAt (W3.setCell ⟨bb, 16, none⟩ (.slice B c.h.length cp2)) B c.h.length cp2 c.h := hh3.far (S := Just bb) ((Only.refl (Just bb) W3).setCell (p := ⟨bb, 16, none⟩) (.inl (show Just bb bb from rfl)) _) fun _ k hk e => by
    have h1 := hown3 k hk
    have h2 := HB2.out.lt
    have h3 : k = bb := e
    omega
  have HO4 := Lib.hid hO4
  have HB4 := Lib.hid hB4
  have HH4 := Lib.hid hH4
  have HW := Lib.hid (show 0 < c.h.length → ∀ k, ownB (.slice B c.h.length cp2) k → k < W3.heap.size ∧ w.heap.size ≤ k from fun h0 k hk => by
    have hlow := Nat.le_trans HO2.out.size (hown3 k hk)
    obtain ⟨g, o, e, hg, _⟩ := hh3.at_ 0 h0
    subst e
    refine ⟨?_, hlow⟩
    rw [← ownB_slice.1 hk]; exact hg)
  have HSZ := Lib.hid (show (W3.setCell ⟨bb, 16, none⟩ (.slice B c.h.length cp2)).heap.size = W3.heap.size by simp [World.setCell])
  change Code.wp _ _ _ _ (W3.setCell ⟨bb, 16, none⟩ (.slice B c.h.length cp2))
  clear hO4 hB4 hH4 hh3 ho3 hown3 HB3 hb16' hf16 HB2 HI2 HO2 hb16 HCL
  generalize W3.setCell ⟨bb, 16, none⟩ (.slice B c.h.length cp2) = W4 at *
  have hmk := @run_makeMap Tryz.prog
  refine wp_region_tail (S := (fun w' : World => Box w' bb 42 (cfgCells c (.slice B c.h.length cp2)) ∧ Only Non W4 w')) 6 (by kernel_rfl) (by kernel_rfl) ?_ ?_
  · exact ⟨by first | exact hSS.1.alloc _ | exact hB5 | exact hB5.alloc _ | exact HB4.out, by first | exact hSS.2.alloc _ | exact hO5 | exact hO5.alloc _ | exact (Only.refl Non W4).drew⟩
  intro hSS
  refine wpHd_take (i := 0) (v := .agg (cfgCells c (.slice B c.h.length cp2))) (by kernel_rfl) rfl (by kernel_rfl) (fun _ _ _ h => h) (yieldsIf_load_mid (by rfl) 42 _ rfl bb 0 rfl (cfgCells c (.slice B c.h.length cp2)).toList _ (fun w hw j v hj => by rw [Nat.zero_add]; exact hw.1.cellAt (by rw [← Array.getElem?_toList]; exact hj)) Tryz.underlying42 rfl (by kernel_rfl)) (by assumption) ?_
  try simp only [Act.put, List.getElem_toArray, List.getElem_cons_succ, List.getElem_cons_zero, List.setIfInBounds_toArray, List.set_cons_zero, List.set_cons_succ]
  refine wpHd_take (i := 1) (v := ?_) (by kernel_rfl) rfl (by kernel_rfl) (fun _ _ _ h => h) (Or.inl ⟨by rfl, ?_⟩) (by assumption) ?_
  rotate_left
  · intro w hSw; (try dsimp only at hSw); go_simp; (try with_reducible rfl)
  try simp only [Act.put, List.getElem_toArray, List.getElem_cons_succ, List.getElem_cons_zero, List.setIfInBounds_toArray, List.set_cons_zero, List.set_cons_succ]
  refine wpHd_take (i := 2) (v := .agg (cfgCells c (.slice B c.h.length cp2))) (by kernel_rfl) rfl (by kernel_rfl) (fun _ _ _ h => h) (yieldsIf_load_mid (by rfl) 42 _ rfl bb 0 rfl (cfgCells c (.slice B c.h.length cp2)).toList _ (fun w hw j v hj => by rw [Nat.zero_add]; exact hw.1.cellAt (by rw [← Array.getElem?_toList]; exact hj)) Tryz.underlying42 rfl (by kernel_rfl)) (by assumption) ?_
  try simp only [Act.put, List.getElem_toArray, List.getElem_cons_succ, List.getElem_cons_zero, List.setIfInBounds_toArray, List.set_cons_zero, List.set_cons_succ]
  refine wpHd_take (i := 3) (v := ?_) (by kernel_rfl) rfl (by kernel_rfl) (fun _ _ _ h => h) (Or.inl ⟨by rfl, ?_⟩) (by assumption) ?_
  rotate_left
  · intro w hSw; (try dsimp only at hSw); go_simp; (try with_reducible rfl)
  try simp only [Act.put, List.getElem_toArray, List.getElem_cons_succ, List.getElem_cons_zero, List.setIfInBounds_toArray, List.set_cons_zero, List.set_cons_succ]
  refine wpHd_two (i := 4) (j := 5) rfl rfl (by kernel_rfl) (fun K hK => ?_) (fun K hK => ?_)
  · go_simp
    refine (HK.out W4.drew B c.h.length cp2 (HH4.out.keep ((Only.refl Non W4).drew))).mono ?_
    rintro e W5 ⟨i, rfl, hR, hF, ho5⟩
    have hO5 : Only Non W4 W5 := ((Only.refl Non W4).drew).trans ho5
    have hB5 := ho5.box hSS.1 id
    have HR5 := Lib.hid hR
    have HF5 := Lib.hid hF
    have HP5 := Lib.hid ho5
    clear hR hF ho5
    refine hK.out _ _ ?_ (fun hSS => ?_)
    · exact ⟨by first | exact hSS.1.alloc _ | exact hB5 | exact hB5.alloc _ | exact HB4.out, by first | exact hSS.2.alloc _ | exact hO5 | exact hO5.alloc _ | exact (Only.refl Non W4).drew⟩
    clear hK
    try simp only [Act.put, List.getElem_toArray, List.getElem_cons_succ, List.getElem_cons_zero, List.setIfInBounds_toArray, List.set_cons_zero, List.set_cons_succ]
    refine wpHd_one (i := 5) rfl (by kernel_rfl) (fun K hK => ?_)
    go_simp
    skip
    refine hK.out _ _ ?_ (fun hSS => ?_)
    · exact ⟨by first | exact hSS.1.alloc _ | exact hB5 | exact hB5.alloc _ | exact HB4.out, by first | exact hSS.2.alloc _ | exact hO5 | exact hO5.alloc _ | exact (Only.refl Non W4).drew⟩
    clear hK
    try simp only [Act.put, List.getElem_toArray, List.getElem_cons_succ, List.getElem_cons_zero, List.setIfInBounds_toArray, List.set_cons_zero, List.set_cons_succ]
    refine wpHd_end (by kernel_rfl) ?_
    have HM := Lib.hid (show MapI (W5.alloc (.map #[] 0)) W5.heap.size (vOf fun _ => none) from MapI.made W5)
    have hlt := (KO.oc i).lt HR5.out
    have ho6 : Only Non W5 (W5.alloc (.map #[] 0)) := (Only.refl Non W5).alloc _
    have HR6 := Lib.hid (show KO.R i KO.s0 (W5.alloc (.map #[] 0)) from (KO.oc i).only HR5.out ho6 fun _ _ => id)
    have HNM := Lib.hid (show ¬ KO.F i W5.heap.size from fun h => by have := hlt _ h; omega)
    have HFL := Lib.hid (show ∀ k, KO.F i k → W4.heap.size ≤ k from fun k hk => HF5.out k hk)
    have HMB := Lib.hid (show W4.heap.size ≤ W5.heap.size from HP5.out.size)
    have HO6 := Lib.hid hSS.2
    have HLT := Lib.hid (show ∀ k, KO.F i k → k < (W5.alloc (.map #[] 0)).heap.size from fun k hk => by have := hlt k hk; rw [World.size_alloc]; omega)
    clear hlt ho6 hSS hB5 hO5 HR5 HF5 HP5
    generalize (W5.alloc (.map #[] 0)) = W6 at *
    generalize W5.heap.size = mb at *
    refine wpList_build' rfl _ _ rfl [(0, .agg (cfgCells c (.slice B c.h.length cp2))), (1, .int .i64 tier), (2, .iface KO.t (KO.x i)), (3, .map (some mb))] _ ?_ (built_cch c (.slice B c.h.length cp2) B c.h.length cp2 tier KO.t (KO.x i) mb) ?_
    · simp [Act.eval]
    go_wp2
    go_ret2
    have hbx := Box.fresh W6 129 (cchCells c (.slice B c.h.length cp2) tier KO.t (KO.x i) mb)
    have hal : Only Non W6 (W6.alloc (.cells (cchCells c (.slice B c.h.length cp2) tier KO.t (KO.x i) mb) 129)) := (Only.refl _ _).alloc _
    have hs4 := HO4.out.size
    have hs6 := HO6.out.size
    refine ⟨i, W6.heap.size, mb, _, rfl, { box := hbx, ord := (KO.oc i).only HR6.out hal fun _ _ => id, map := HM.out.keep hal, keys := fun b => by rw [KO.nil]; simp, dat := fun b l v h => (by cases h), ncb := fun h => by have := HLT.out _ h; omega, nmb := HNM.out, right := HP.out, t1 := h1, t3 := h3, hin := ⟨B, c.h.length, cp2, rfl, HH4.out.keep (HO6.out.trans hal), fun h0 k hk => ?_⟩ }, fun k hk => Nat.le_trans hs4 (HFL.out k hk), Nat.le_trans hs4 hs6, Nat.le_trans hs4 HMB.out, fun h0 k hk => (HW.out h0 k hk).2, HO4.out.trans (HO6.out.trans hal)⟩
    have hk3 := (HW.out h0 k hk).1
    rw [← HSZ.out] at hk3
    refine ⟨fun h => by have := HFL.out k h; omega, by omega, fun e => by have := HMB.out; omega⟩
  · go_simp
    skip
    refine hK.out _ _ ?_ (fun hSS => ?_)
    · exact ⟨by first | exact hSS.1.alloc _ | exact hB5 | exact hB5.alloc _ | exact HB4.out, by first | exact hSS.2.alloc _ | exact hO5 | exact hO5.alloc _ | exact (Only.refl Non W4).drew⟩
    clear hK
    try simp only [Act.put, List.getElem_toArray, List.getElem_cons_succ, List.getElem_cons_zero, List.setIfInBounds_toArray, List.set_cons_zero, List.set_cons_succ]
    refine wpHd_one (i := 4) rfl (by kernel_rfl) (fun K hK => ?_)
    go_simp
    refine (HK.out (W4.drew.alloc (.map #[] 0)) B c.h.length cp2 (HH4.out.keep (((Only.refl Non W4).drew).alloc (.map #[] 0)))).mono ?_
    rintro e W5 ⟨i, rfl, hR, hF, ho5⟩
    have hO5 : Only Non W4 W5 := (((Only.refl Non W4).drew).alloc (.map #[] 0)).trans ho5
    have hB5 := ho5.box hSS.1 id
    have HR5 := Lib.hid hR
    have HF5 := Lib.hid hF
    have HP5 := Lib.hid ho5
    clear hR hF ho5
    refine hK.out _ _ ?_ (fun hSS => ?_)
    · exact ⟨by first | exact hSS.1.alloc _ | exact hB5 | exact hB5.alloc _ | exact HB4.out, by first | exact hSS.2.alloc _ | exact hO5 | exact hO5.alloc _ | exact (Only.refl Non W4).drew⟩
    clear hK
    try simp only [Act.put, List.getElem_toArray, List.getElem_cons_succ, List.getElem_cons_zero, List.setIfInBounds_toArray, List.set_cons_zero, List.set_cons_succ]
    refine wpHd_end (by kernel_rfl) ?_
    have HM := (show MapI W5 W4.heap.size (vOf fun _ => none) from (MapI.made W4.drew).keep HP5.out)
    have hlt := (KO.oc i).lt HR5.out
    have HR6 := HR5
    have HNM := (show ¬ KO.F i W4.heap.size from fun h => by have h1 := HF5.out _ h; rw [World.size_alloc] at h1; have h2 : W4.drew.heap.size = W4.heap.size := rfl; omega)
    have HFL := Lib.hid (show ∀ k, KO.F i k → W4.heap.size ≤ k from fun k hk => by have h1 := HF5.out _ hk; rw [World.size_alloc] at h1; have h2 : W4.drew.heap.size = W4.heap.size := rfl; omega)
    have HO6 := Lib.hid hSS.2
    have HLT := Lib.hid hlt
    clear hlt hSS hB5 hO5 HR5 HF5 HP5
    obtain ⟨mb, hmb⟩ : ∃ mb, mb = W4.heap.size := ⟨_, rfl⟩
    have HMB := Lib.hid (show W4.heap.size ≤ mb from Nat.le_of_eq hmb.symm)
    rw [← hmb] at HM HNM
    have HM := Lib.hid HM
    have HNM := Lib.hid HNM
    rw [← hmb]
    clear hmb
    generalize W5 = W6 at *
    refine wpList_build' rfl _ _ rfl [(0, .agg (cfgCells c (.slice B c.h.length cp2))), (1, .int .i64 tier), (2, .iface KO.t (KO.x i)), (3, .map (some mb))] _ ?_ (built_cch c (.slice B c.h.length cp2) B c.h.length cp2 tier KO.t (KO.x i) mb) ?_
    · simp [Act.eval]
    go_wp2
    go_ret2
    have hbx := Box.fresh W6 129 (cchCells c (.slice B c.h.length cp2) tier KO.t (KO.x i) mb)
    have hal : Only Non W6 (W6.alloc (.cells (cchCells c (.slice B c.h.length cp2) tier KO.t (KO.x i) mb) 129)) := (Only.refl _ _).alloc _
    have hs4 := HO4.out.size
    have hs6 := HO6.out.size
    refine ⟨i, W6.heap.size, mb, _, rfl, { box := hbx, ord := (KO.oc i).only HR6.out hal fun _ _ => id, map := HM.out.keep hal, keys := fun b => by rw [KO.nil]; simp, dat := fun b l v h => (by cases h), ncb := fun h => by have := HLT.out _ h; omega, nmb := HNM.out, right := HP.out, t1 := h1, t3 := h3, hin := ⟨B, c.h.length, cp2, rfl, HH4.out.keep (HO6.out.trans hal), fun h0 k hk => ?_⟩ }, fun k hk => Nat.le_trans hs4 (HFL.out k hk), Nat.le_trans hs4 hs6, Nat.le_trans hs4 HMB.out, fun h0 k hk => (HW.out h0 k hk).2, HO4.out.trans (HO6.out.trans hal)⟩
    have hk3 := (HW.out h0 k hk).1
    rw [← HSZ.out] at hk3
    refine ⟨fun h => by have := HFL.out k h; omega, by omega, fun e => by have := HMB.out; omega⟩
end
end Go.Proofs.YtcphifphidcbaaaGreat
