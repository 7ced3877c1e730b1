/- server.New at the least configuration. -/
import Derived.Test.YtcphifphidcbaaaGreatSra
import Derived.Test.YtcphifphidcbaaaGreatCln
namespace Go.Proofs.YtcphifphidcbaaaGreat
open Go.RowKit Go.ChangeShapes Go.WideShapes
set_option linter.unusedVariables false
set_option linter.unusedSimpArgs false
def srv1 (cb d : Nat) : SrvA := { srv0 cb with dir := .pointer (some ⟨d, 0, none⟩), below := fun b => if b < 32 then true else false }
def SNPost (K : OKind) (w : World) (e : Ending) (w' : World) : Prop :=
  ∃ i l cb mb d cs hv A n cp, e = .returned (.tuple #[.pointer (some ⟨l, 0, none⟩), .int .i64 0]) ∧ Box w' l 115 (srvC lc (.slice A n cp) (srv1 cb d)) ∧ Box w' d 177 cs ∧
    CchB K i w' cb mb lc hv 2 K.s0 (fun _ => none) ∧ (∀ k, cchBlk K i cb mb lc hv (fun _ => none) k → w.heap.size ≤ k ∧ k < l) ∧ w.heap.size ≤ l ∧ l < d ∧ Only Non w w'
section
set_option maxHeartbeats 4000000
set_option maxRecDepth 100000
theorem srv_new {KO : OKind} (hK : KO.Made lc 2) (w : World) :
    Calls Tryz.prog 59 #[.agg (cfgCells lc (.slice none 0 0))] w (SNPost KO w) := by
  have hP := lc_ok
  have hin : ∀ w : World, HintsAt w none 0 0 lc.h := fun w => ⟨rfl, Nat.le_refl _, Nat.zero_le _, fun i hi => absurd hi (Nat.not_lt_zero _)⟩
  have HI := Lib.hid hin
  have HNW := fun w => Lib.hid (cch_new (A := none) (n := 0) (cp := 0) hK hP (by decide : 1 ≤ 2) (by decide : 2 ≤ 3) w (hin w))
  have HNW := Lib.hid HNW
  clear hP hin
  go_enter Tryz.func59, Tryz.ntmps59
  go_upto_region 1 with fail
  have HB1 := Lib.hid (Box.fresh w 42 (cfgCells lc (.slice none 0 0)))
  have HO1 := Lib.hid ((Only.refl Non w).alloc (.cells (cfgCells lc (.slice none 0 0)) 42))
  generalize w.alloc (.cells (cfgCells lc (.slice none 0 0)) 42) = W1 at *
  obtain ⟨bb, hbb⟩ : ∃ bb, bb = w.heap.size := ⟨_, rfl⟩
  have HBB := Lib.hid (show w.heap.size ≤ bb from Nat.le_of_eq hbb.symm)
  rw [← hbb] at HB1 ⊢
  clear hbb
  have HR := HNW.out W1
  go_upto_region 4 with (first | (refine wpList_load_row rfl 42 _ rfl bb rfl 42 (cfgCells lc (.slice none 0 0)) (0, 0) _ HB1.out Tryz.underlying42 rfl (by kernel_rfl) ?_) | (go_at_call 48; refine HR.out.mono ?_; rintro e W2 ⟨i, cb, mb, hvc, rfl, hc2, hF2, hcb2, hmb2, hhv2, ho2⟩))
  have HB2 := Lib.hid (ho2.box HB1.out id)
  have HO2 := Lib.hid (HO1.out.trans ho2)
  have HC2 := Lib.hid hc2
  have HP2 := Lib.hid (show ∀ k, cchBlk KO i cb mb lc hvc (fun _ => none) k → w.heap.size ≤ k ∧ k ≠ bb ∧ k < W2.heap.size from by
    have hsz := HO1.out.size
    have hbl := HB1.out.lt
    intro k hk
    have h3 := hc2.blkLt hk
    rcases hk with hk | hk | hk | ⟨_, _, _, hk, _⟩ | hk
    · have := hF2 k hk; exact ⟨by omega, by omega, h3⟩
    · exact ⟨by omega, by omega, h3⟩
    · exact ⟨by omega, by omega, h3⟩
    · cases hk
    · have := hhv2 hk.1 k hk.2; exact ⟨by omega, by omega, h3⟩)
  clear ho2 HB1 HO1 HR hc2 hF2 hcb2 hmb2 hhv2
  have hb16 : W2.cell? ⟨bb, 16, none⟩ = some (.slice none 0 0) := HB2.out.cellAt (cfgCells_hs lc _)
  have HCL := Lib.hid (hclone_any W2 (HI.out W2) (by decide))
  go_upto_region 5 with (go_at_call 49; refine HCL.out.mono ?_; rintro e W3 ⟨B, cp2, rfl, hh3, ho3, hown3⟩; have HB3 := Lib.hid (ho3.box HB2.out id); have hb16' : W3.cell? ⟨bb, 16, none⟩ = some (.slice none 0 0) := ho3.cell hb16 id; have hf16 := HB3.out.free 16)
  have hj4 : Only (Just bb) W3 (W3.setCell ⟨bb, 16, none⟩ (.slice B lc.h.length cp2)) := (Only.refl (Just bb) W3).setCell (p := ⟨bb, 16, none⟩) (.inl (show Just bb bb from rfl)) _
  have HO4 := Lib.hid (show Only Non w (W3.setCell ⟨bb, 16, none⟩ (.slice B lc.h.length cp2)) from (HO2.out.trans ho3).setCell (p := ⟨bb, 16, none⟩) (.inr HBB.out) _)
  have HB4 := Lib.hid (show Box (W3.setCell ⟨bb, 16, none⟩ (.slice B lc.h.length cp2)) bb 42 (cfgCells lc (.slice B lc.h.length cp2)) from HB3.out.store 16 (.slice B lc.h.length cp2))
  have HC4 := Lib.hid ((HC2.out.keep ho3).far' hj4 fun k hk e => (HP2.out k hk).2.1 e)
  have HSZ := Lib.hid (show W2.heap.size ≤ (W3.setCell ⟨bb, 16, none⟩ (.slice B lc.h.length cp2)).heap.size from Nat.le_trans ho3.size hj4.size)
  change Code.wp _ _ _ _ (W3.setCell ⟨bb, 16, none⟩ (.slice B lc.h.length cp2))
  clear hh3 ho3 hown3 HB3 hb16' hf16 HB2 HO2 hb16 HCL hj4 HC2
  generalize W3.setCell ⟨bb, 16, none⟩ (.slice B lc.h.length cp2) = W4 at *
  generalize lc.h.length = hn at *
  go_upto_region 6 with (first | (refine wpList_load_row rfl 42 _ rfl bb rfl 42 (cfgCells lc (.slice B hn cp2)) (0, 0) _ HB4.out Tryz.underlying42 rfl (by kernel_rfl) ?_) | (refine wpList_build' rfl _ _ rfl [(0, .agg (cfgCells lc (.slice B hn cp2))), (1, .pointer (some ⟨cb, 0, none⟩))] _ (by simp [Act.eval]) (built_srv lc B hn cp2 cb) ?_))
  have ho5 : Only Non W4 (W4.alloc (.cells (srvC lc (.slice B hn cp2) (srv0 cb)) 115)) := (Only.refl _ _).alloc _
  have HL5 := Lib.hid (Box.fresh W4 115 (srvC lc (.slice B hn cp2) (srv0 cb)))
  have HC5 := Lib.hid (HC4.out.keep ho5)
  have HO5 := Lib.hid (HO4.out.trans ho5)
  obtain ⟨l, hl⟩ : ∃ l, l = W4.heap.size := ⟨_, rfl⟩
  have HLE := Lib.hid (show W2.heap.size ≤ l ∧ w.heap.size ≤ l from by have h1 := HSZ.out; have h2 := HO4.out.size; omega)
  rw [← hl] at HL5 ⊢
  clear ho5 hl HB4 HO4 HC4 HSZ
  generalize W4.alloc (.cells (srvC lc (.slice B hn cp2) (srv0 cb)) 115) = W5 at *
  have HF := Lib.hid (srv_forget l (.slice B hn cp2) (srv0 cb) W5 HL5.out)
  go_wp2_with (go_at_call 71; refine HF.out.mono ?_; rintro e W6 ⟨rfl, d, cs, hd, hd6, hl6, ho6⟩)
  go_ret2
  have h1 := HL5.out.lt
  exact ⟨i, l, cb, mb, d, cs, hvc, B, hn, cp2, rfl, hl6, hd6, HC5.out.far' ho6 (fun k hk e => by have h2 : k = l := e; have h3 := HP2.out k hk; have h4 := HLE.out; omega), fun k hk => by have h3 := HP2.out k hk; have h4 := HLE.out; exact ⟨h3.1, by omega⟩, HLE.out.2, by omega, HO5.out.trans' ho6 fun k hk => .inr (by have h2 : k = l := hk; have h4 := HLE.out; omega)⟩
end
end Go.Proofs.YtcphifphidcbaaaGreat
