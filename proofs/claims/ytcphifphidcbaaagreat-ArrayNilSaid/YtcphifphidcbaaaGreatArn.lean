/- array.Hear of a read; gradinelaw18.least, wakes; an array that is not there; ArrayNil, walked. -/
import Derived.Test.YtcphifphidcbaaaGreatArb
import Derived.Test.YtcphifphidcbaaaGreatMsm
import Derived.Test.YtcphifphidcbaaaGreatMsgR
import Derived.Test.YtcphifphidcbaaaGreatLea
namespace Go.Proofs.YtcphifphidcbaaaGreat
open Go.RowKit Go.ChangeShapes Go.WideShapes
set_option linter.unusedVariables false
set_option linter.unusedSimpArgs false
def mA : MsgA := ⟨fun i => [8, 0, 0, 0, 0, 1, 0, 0, 0].getD i 0, false⟩
def mB : MsgA := ⟨fun i => [12, 0, 0, 0, 0, 1, 0, 0, 0].getD i 0, false⟩
theorem mA_right : msgB mA 0 = true := by decide
theorem arr_do8 (w : World) : (Instr.index 103 (.agg #[.nilFunc, .nilFunc, .nilFunc, .nilFunc, .nilFunc, .nilFunc, .nilFunc, .nilFunc, .func (.func 55) #[] #[], .func (.func 56) #[] #[], .func (.func 57) #[] #[], .func (.func 58) #[] #[], .nilFunc, .nilFunc, .nilFunc]) (.int .i64 8)).run Tryz.prog w = .ok (.func (.func 55) #[] #[]) w := by kernel_rfl
theorem arr_fn8 (w : World) : (binOp BinOp.eql 102 (.func (.func 55) #[] #[]) .nilFunc).run Tryz.prog w = .ok (.bool false) w := by kernel_rfl
def BdPost' (ab : Nat) (w : World) (e : Ending) (w' : World) : Prop :=
  ∃ g q v, e = .returned (.slice (some ⟨g, 0, none⟩) 1 q) ∧ (∀ j u, (bdC 1 v).toList[j]? = some u → w'.cell? ⟨g, j, none⟩ = some u) ∧ Byt w' v [0] ∧ w'.cell? ⟨ab, 20, none⟩ = some (.int .i64 1) ∧ Only Non w w'
section
set_option maxHeartbeats 4000000
set_option maxRecDepth 100000
variable {KO : OKind} {i : KO.ι} {w : World} {cb mb : Nat} {c : CfgA} {hvc : Value} {tier : Nat} {s : KO.σ} {D : Int → Option Blk}
theorem ahear_read {ab sb : Nat} {A : Option Addr} {n cp : Nat} {rd : Int} {lm : Value} {Q : Ending → World → Prop} (ha : Box w ab 97 (arrC c (.slice A n cp) sb cb false rd lm))
    (hr : ∀ W, Only Non w W → Calls Tryz.prog 55 #[.pointer (some ⟨ab, 0, none⟩), .agg (msgC mA (.slice none 0 0))] W fun e w' => (∃ v, e = .returned v) ∧ Q e w') :
    Calls Tryz.prog 20 #[.pointer (some ⟨ab, 0, none⟩), .agg (msgC mA (.slice none 0 0))] w Q := by
  have HA := Lib.hid ha
  have HRD := Lib.hid hr
  clear ha hr
  go_enter Tryz.func20, Tryz.ntmps20
  go_upto_region 1 with fail
  have HM := Lib.hid (Box.fresh w 25 (msgC mA (.slice none 0 0)))
  have al := (Only.refl Non w).alloc (.cells (msgC mA (.slice none 0 0)) 25)
  have HO := Lib.hid al
  have HA1 := Lib.hid (al.box HA.out id)
  change Code.wp _ _ _ _ (w.alloc (.cells (msgC mA (.slice none 0 0)) 25))
  clear al
  generalize w.alloc (.cells (msgC mA (.slice none 0 0)) 25) = W1 at *
  generalize w.heap.size = mb at *
  have HR := msg_right mA none 0 0 W1
  rw [mA_right] at HR
  have HR := Lib.hid HR
  have z0 : W1.cell? ⟨mb, 0, none⟩ = some (.int .i64 8) := HM.out.cellAt rfl
  have z1 : W1.cell? ⟨mb, 1, none⟩ = some (.int .i64 0) := HM.out.cellAt rfl
  have z2 : W1.cell? ⟨mb, 2, none⟩ = some (.int .i64 0) := HM.out.cellAt rfl
  have z3 : W1.cell? ⟨mb, 3, none⟩ = some (.int .i64 0) := HM.out.cellAt rfl
  have z4 : W1.cell? ⟨mb, 4, none⟩ = some (.int .i64 0) := HM.out.cellAt rfl
  have z5 : W1.cell? ⟨mb, 5, none⟩ = some (.int .i64 1) := HM.out.cellAt rfl
  have z6 : W1.cell? ⟨mb, 6, none⟩ = some (.int .i64 0) := HM.out.cellAt rfl
  have z7 : W1.cell? ⟨mb, 7, none⟩ = some (.int .i64 0) := HM.out.cellAt rfl
  have z8 : W1.cell? ⟨mb, 8, none⟩ = some (.int .i64 0) := HM.out.cellAt rfl
  have z9 : W1.cell? ⟨mb, 9, none⟩ = some (.bool false) := HM.out.cellAt rfl
  have z10 : W1.cell? ⟨mb, 10, none⟩ = some (.slice none 0 0) := HM.out.cellAt rfl
  have y19 : W1.cell? ⟨ab, 19, none⟩ = some (.bool false) := HA1.out.cellAt rfl
  go_upto_region 3 with (go_at_call 42; refine HR.out.mono ?_; rintro e W2 ⟨rfl, ho2⟩)
  have HM2 := Lib.hid (ho2.box HM.out id)
  have HO2 := Lib.hid (HO.out.trans ho2)
  clear z0 z1 z2 z3 z4 z5 z6 z7 z8 z9 z10 y19 HR HM HA1 HO ho2
  have z0 : W2.cell? ⟨mb, 0, none⟩ = some (.int .i64 8) := HM2.out.cellAt rfl
  have HR2 := Lib.hid (HRD.out W2 HO2.out)
  have hd8 := arr_do8
  have hf8 := arr_fn8
  go_wp2_with (first | (refine wpList_load_row rfl 25 _ rfl mb rfl 25 (msgC mA (.slice none 0 0)) (0, 0) _ HM2.out Tryz.underlying25 rfl (by kernel_rfl) ?_) | (go_at_call 55; refine HR2.out.mono ?_; rintro e W3 ⟨⟨v, rfl⟩, hq⟩))
  exact hq
theorem least18_any (w : World) : Calls Tryz.prog 19 #[] w fun e w' => e = .returned (.agg (cfgCells lc (.slice none 0 0))) ∧ Only Non w w' := by
  have HB := Lib.hid (Box.fresh w 42 #[.int .i64 0, .int .i64 0, .int .i64 0, .int .i64 0, .int .i64 0, .int .i64 0, .int .i64 0, .int .i64 0, .int .i64 0, .int .i64 0, .int .i64 0, .int .i64 0, .int .i64 0, .int .i64 0, .int .i64 0, .int .i64 0, .slice none 0 0])
  have HO := Lib.hid (show Only Non w (w.alloc (.cells #[.int .i64 0, .int .i64 0, .int .i64 0, .int .i64 0, .int .i64 0, .int .i64 0, .int .i64 0, .int .i64 0, .int .i64 0, .int .i64 0, .int .i64 0, .int .i64 0, .int .i64 0, .int .i64 0, .int .i64 0, .int .i64 0, .slice none 0 0] 42)) from (Only.refl Non w).alloc _)
  go_enter Tryz.func19, Tryz.ntmps19
  go_upto_region 1 with fail
  generalize w.alloc (.cells #[.int .i64 0, .int .i64 0, .int .i64 0, .int .i64 0, .int .i64 0, .int .i64 0, .int .i64 0, .int .i64 0, .int .i64 0, .int .i64 0, .int .i64 0, .int .i64 0, .int .i64 0, .int .i64 0, .int .i64 0, .int .i64 0, .slice none 0 0] 42) = W at *
  go_wp2_with (refine wpList_store_row rfl 42 _ _ rfl w.heap.size (cfgCells lc (.slice none 0 0)) rfl rfl 42 _ HB.out (by kernel_rfl) rfl (cfg_one lc none 0 0) ?_)
  (try simp only [Exit.inBlock, Exit.then])
  refine bodyPost_ret (results_cell_row rfl _ _ w.heap.size _ (cfgCells lc (.slice none 0 0)) (0, 0) _ rfl (HB.out.setRow' _) Tryz.underlying42 rfl (by kernel_rfl)) rfl ?_
  exact ⟨rfl, HO.out.setRow' (.inr (Nat.le_refl _)) _⟩
theorem arr_reads {ab : Nat} {rd : Int} (w : World) (h : w.cell? ⟨ab, 20, none⟩ = some (.int .i64 rd)) : Calls Tryz.prog 22 #[.pointer (some ⟨ab, 0, none⟩)] w fun e w' => e = .returned (.int .i64 rd) ∧ w = w' := by
  go_enter Tryz.func22, Tryz.ntmps22
  go_wp2_with fail
  go_ret
  exact ⟨rfl, rfl⟩
theorem blkOf_nil : blkOf 1 [] = (0, [0]) := rfl
theorem wakes18_any (w : World) : Calls Tryz.prog 16 #[] w fun e w' => e = .returned (.bool true) ∧ Only Non w w' := by
  go_enter Tryz.func16, Tryz.ntmps16
  go_wp2_with fail
  refine (least18_any w).mono ?_
  rintro e W1 ⟨rfl, ho1⟩
  have HO1 := Lib.hid ho1
  clear ho1
  go_wp2_with fail
  refine (sec_new W1).mono ?_
  rintro e W2 ⟨db, lb, rfl, hd2, hl2, hb2, ho2⟩
  have HN := Lib.hid (arr_new (A := none) (n := 0) (cp := 0) (lc_made 2 (by decide)) lc_ok W2 ⟨rfl, Nat.le_refl _, Nat.zero_le _, fun i hi => absurd hi (Nat.not_lt_zero _)⟩ hd2 (by decide) (by decide) (fun i x hx => by cases hx) rfl)
  have HO2 := Lib.hid (HO1.out.trans ho2)
  clear hd2 hl2 hb2 ho2 HO1
  go_wp2_with fail
  refine HN.out.mono ?_
  rintro e W3 ⟨i, ab, cb, mb, sb, hvc, lm, rfl, ha3, hc3, hs3, hk3, hwb, hba, ho3⟩
  have HA3 := Lib.hid ha3
  have HLO := Lib.hid (show w.heap.size ≤ ab from by have := HO2.out.size; omega)
  have HRD := Lib.hid (fun W (ho : Only Non W3 W) => arr_read_miss (m := mA) (b := 1) (size := 1) rfl (by decide) rfl (by decide) rfl (by decide) (ho.box ha3 id) (hc3.keep ho) (fun k hk => by have := hk3 k hk; omega) (hs3.keep ho) (by rw [(lruK 1).nil]; simp))
  have HO3 := Lib.hid (HO2.out.trans ho3)
  clear ha3 hc3 hs3 hk3 hwb hba ho3 HN HO2
  have HH := Lib.hid (ahear_read (Q := BdPost' ab w) HA3.out (fun W ho => (HRD.out W ho).mono fun e w' h => by
    obtain ⟨g, q, v, rfl, h2, h3, h4, h5, h6⟩ := h
    exact ⟨⟨_, rfl⟩, g, q, v, rfl, h2, by rw [show (1 : Nat) + 1 = 2 from rfl] at h3; exact h3, h4.cellAt rfl, (HO3.out.trans ho).trans' h5 fun k hk => .inr (by have h7 : k = ab := hk; have := HLO.out; omega)⟩))
  go_upto_region 5 with (go_at_call 20; refine HH.out.mono ?_; rintro e W4 ⟨g, q, v, rfl, hc4, hv4, hr4, ho4⟩)
  obtain ⟨B, cv, hvv, hcv, hl0, hsv⟩ := hv4
  have HV4 := Lib.hid (show Byt W4 v [0] from ⟨B, cv, hvv, hcv, hl0, hsv⟩)
  have HO4 := Lib.hid ho4
  clear hcv hl0 hsv ho4 HRD HH HA3 HO3
  subst hvv
  have k0 : W4.cell? ⟨g, 0, none⟩ = some (.int .i64 12) := hc4 0 _ rfl
  have k1 : W4.cell? ⟨g, 1, none⟩ = some (.int .i64 0) := hc4 1 _ rfl
  have k2 : W4.cell? ⟨g, 2, none⟩ = some (.int .i64 0) := hc4 2 _ rfl
  have k3 : W4.cell? ⟨g, 3, none⟩ = some (.int .i64 0) := hc4 3 _ rfl
  have k4 : W4.cell? ⟨g, 4, none⟩ = some (.int .i64 0) := hc4 4 _ rfl
  have k5 : W4.cell? ⟨g, 5, none⟩ = some (.int .i64 1) := hc4 5 _ rfl
  have k6 : W4.cell? ⟨g, 6, none⟩ = some (.int .i64 0) := hc4 6 _ rfl
  have k7 : W4.cell? ⟨g, 7, none⟩ = some (.int .i64 0) := hc4 7 _ rfl
  have k8 : W4.cell? ⟨g, 8, none⟩ = some (.int .i64 0) := hc4 8 _ rfl
  have k9 : W4.cell? ⟨g, 9, none⟩ = some (.bool false) := hc4 9 _ rfl
  have k10 : W4.cell? ⟨g, 10, none⟩ = some (.slice B ([0] : List Int).length cv) := hc4 10 _ rfl
  clear hc4
  have al := (Only.refl Non W4).alloc (.cells #[.int .u8 0] 5)
  have HZ := Lib.hid (show Byt (W4.alloc (.cells #[.int .u8 0] 5)) (.slice (some ⟨W4.heap.size, 0, none⟩) 1 1) [0] from ⟨_, 1, rfl, Nat.le_refl _, by decide, one_src W4 (.int .u8 0) 5⟩)
  have HS := Lib.hid (msame_any mB mB B (some ⟨W4.heap.size, 0, none⟩) 1 cv 1 1 [0] [0] (W4.alloc (.cells #[.int .u8 0] 5)) (HV4.out.only al fun _ _ => id) HZ.out)
  rw [show msgSame mB mB [0] [0] = true by decide] at HS
  have HAL := Lib.hid al
  have HR4 := Lib.hid hr4
  clear al hr4
  rw [show ([0] : List Int).length = 1 from rfl] at k10
  go_wp2_with (first | (go_at_call 52; refine HS.out.mono ?_; rintro e W5 ⟨rfl, ho5⟩; have r5 : W5.cell? ⟨ab, 20, none⟩ = some (.int .i64 1) := ho5.cell (HAL.out.cell HR4.out id) id) | (go_at_call 22; refine (arr_reads _ r5).mono ?_; rintro e W6 ⟨rfl, rfl⟩))
  go_ret
  exact ⟨rfl, (HO4.out.trans HAL.out).trans ho5⟩
theorem nila_hear (m : MsgA) (A : Option Addr) (n c : Nat) (w : World) : Calls Tryz.prog 20 #[.pointer none, .agg (msgC m (.slice A n c))] w fun e w' => e = .returned (.slice none 0 0) ∧ Only Non w w' := by
  have HO := Lib.hid ((Only.refl Non w).alloc (.cells (msgC m (.slice A n c)) 25))
  go_enter Tryz.func20, Tryz.ntmps20
  go_upto_region 1 with fail
  generalize w.alloc (.cells (msgC m (.slice A n c)) 25) = W1 at *
  go_wp2_with fail
  go_ret
  exact ⟨rfl, HO.out⟩
theorem nila_stored (b : Int) (w : World) : Calls Tryz.prog 17 #[.pointer none, .int .i64 b] w fun e w' => e = .returned (.tuple #[.slice none 0 0, .int .i64 0, .int .i64 7]) ∧ w = w' := by
  go_enter Tryz.func17, Tryz.ntmps17
  go_wp2_with fail
  go_ret3
  exact ⟨rfl, rfl⟩
theorem nila_blocks (w : World) : Calls Tryz.prog 21 #[.pointer none] w fun e w' => e = .returned (.slice none 0 0) ∧ w = w' := by
  go_enter Tryz.func21, Tryz.ntmps21
  go_wp2_with fail
  go_ret
  exact ⟨rfl, rfl⟩
theorem nila_reads (w : World) : Calls Tryz.prog 22 #[.pointer none] w fun e w' => e = .returned (.int .i64 0) ∧ w = w' := by
  go_enter Tryz.func22, Tryz.ntmps22
  go_wp2_with fail
  go_ret
  exact ⟨rfl, rfl⟩
theorem nila_down (w : World) : Calls Tryz.prog 23 #[.pointer none] w fun e w' => e = .returned (.bool true) ∧ w = w' := by
  go_enter Tryz.func23, Tryz.ntmps23
  go_wp2_with fail
  go_ret
  exact ⟨rfl, rfl⟩
theorem nild_open (sh : Nat → Int) (w : World) : Calls Tryz.prog 54 #[.pointer none, .agg (shC sh)] w fun e w' => e = .returned (.tuple #[.pointer none, .int .i64 7]) ∧ Only Non w w' := by
  have HO := Lib.hid ((Only.refl Non w).alloc (.cells (shC sh) 101))
  go_enter Tryz.func54, Tryz.ntmps54
  go_upto_region 1 with fail
  generalize w.alloc (.cells (shC sh) 101) = W1 at *
  go_wp2_with fail
  go_ret2
  exact ⟨rfl, HO.out⟩
theorem arr_new_nil (w : World) : Calls Tryz.prog 18 #[.agg (cfgCells lc (.slice none 0 0)), .pointer none] w fun e w' => e = .returned (.tuple #[.pointer none, .int .i64 7]) ∧ Only Non w w' := by
  have HNW := Lib.hid (fun w => cch_new (A := none) (n := 0) (cp := 0) (lc_made 2 (by decide)) lc_ok (by decide : 1 ≤ 3) (by decide : 3 ≤ 3) w ⟨rfl, Nat.le_refl _, Nat.zero_le _, fun i hi => absurd hi (Nat.not_lt_zero _)⟩)
  go_enter Tryz.func18, Tryz.ntmps18
  go_upto_region 1 with fail
  have al1 := (Only.refl Non w).alloc (.cells (cfgCells lc (.slice none 0 0)) 42)
  have HB1 := Lib.hid (Box.fresh w 42 (cfgCells lc (.slice none 0 0)))
  have HO1 := Lib.hid al1
  have HR := Lib.hid (HNW.out (w.alloc (.cells (cfgCells lc (.slice none 0 0)) 42)))
  change Code.wp _ _ _ _ (w.alloc (.cells (cfgCells lc (.slice none 0 0)) 42))
  clear al1
  generalize w.alloc (.cells (cfgCells lc (.slice none 0 0)) 42) = W1 at *
  generalize w.heap.size = bb at *
  go_upto_region 2 with (first | (refine wpList_load_row rfl 42 _ rfl bb rfl 42 (cfgCells lc (.slice none 0 0)) (0, 0) _ HB1.out Tryz.underlying42 rfl (by kernel_rfl) ?_) | (go_at_call 48; refine HR.out.mono ?_; rintro e W2 ⟨i, cb, mb, hvc, rfl, hc2, hF2, hcb2, hmb2, hhv2, ho2⟩))
  have HB2 := Lib.hid (ho2.box HB1.out id)
  have HO2 := Lib.hid (HO1.out.trans ho2)
  clear ho2 HB1 HO1 HR hc2 hF2 hcb2 hmb2 hhv2 HNW
  have x0 : W2.cell? ⟨bb, 0, none⟩ = some (.int .i64 (lc.f 0)) := HB2.out.cellAt (cfgCells_at lc _ (by decide))
  have x1 : W2.cell? ⟨bb, 1, none⟩ = some (.int .i64 (lc.f 1)) := HB2.out.cellAt (cfgCells_at lc _ (by decide))
  have x2 : W2.cell? ⟨bb, 2, none⟩ = some (.int .i64 (lc.f 2)) := HB2.out.cellAt (cfgCells_at lc _ (by decide))
  have x3 : W2.cell? ⟨bb, 3, none⟩ = some (.int .i64 (lc.f 3)) := HB2.out.cellAt (cfgCells_at lc _ (by decide))
  go_wp2_with (go_at_call 54; refine (nild_open (shOf lc) _).mono ?_; rintro e W3 ⟨rfl, ho3⟩)
  go_ret2
  exact ⟨rfl, HO2.out.trans ho3⟩
theorem arrayNil_walk (m : MsgA) (A : Option Addr) (len c : Nat) (w : World) : Calls Tryz.prog 4 #[.agg (msgC m (.slice A len c))] w fun e w' => e = .returned (.bool true) ∧ Only Non w w' := by
  have HB := Lib.hid (Box.fresh w 25 (msgC m (.slice A len c)))
  have HO := Lib.hid ((Only.refl Non w).alloc (.cells (msgC m (.slice A len c)) 25))
  go_enter Tryz.func4, Tryz.ntmps4
  go_upto_region 1 with fail
  change Code.wp _ _ _ _ (w.alloc (.cells (msgC m (.slice A len c)) 25))
  generalize w.alloc (.cells (msgC m (.slice A len c)) 25) = W1 at *
  generalize w.heap.size = fb at *
  go_wp2_with fail
  refine (wakes18_any W1).mono ?_
  rintro e W2 ⟨rfl, ho2⟩
  have HB2 := Lib.hid (ho2.box HB.out id)
  have HO2 := Lib.hid (HO.out.trans ho2)
  have x5 : W2.cell? ⟨fb, 5, none⟩ = some (.int .i64 (m.f 5)) := HB2.out.cellAt rfl
  clear ho2 HB HO
  go_upto_region 5 with (go_at_call 17; refine (nila_stored _ _).mono ?_; rintro e W3 ⟨rfl, rfl⟩)
  clear x5
  go_upto_region 6 with (first | (go_at_call 19; refine (least18_any _).mono ?_; rintro e W3 ⟨rfl, ho3⟩) | (go_at_call 18; refine (arr_new_nil _).mono ?_; rintro e W4 ⟨rfl, ho4⟩))
  have HB4 := Lib.hid (ho4.box (ho3.box HB2.out id) id)
  have HO4 := Lib.hid ((HO2.out.trans ho3).trans ho4)
  clear ho3 ho4 HB2 HO2
  go_wp2_with (first | (refine wpList_load_row rfl 25 _ rfl fb rfl 25 (msgC m (.slice A len c)) (0, 0) _ HB4.out Tryz.underlying25 rfl (by kernel_rfl) ?_) | (go_at_call 20; refine (nila_hear m A len c _).mono ?_; rintro e W5 ⟨rfl, ho5⟩) | (go_at_call 21; refine (nila_blocks _).mono ?_; rintro e W6 ⟨rfl, rfl⟩) | (go_at_call 22; refine (nila_reads _).mono ?_; rintro e W6 ⟨rfl, rfl⟩) | (go_at_call 23; refine (nila_down _).mono ?_; rintro e W6 ⟨rfl, rfl⟩))
  go_ret
  exact ⟨rfl, HO4.out.trans ho5⟩
end
end Go.Proofs.YtcphifphidcbaaaGreat
