/- A server with one request: told, client, Hear. -/
import Derived.Test.YtcphifphidcbaaaGreatSrg
namespace Go.Proofs.YtcphifphidcbaaaGreat
open Go.RowKit Go.ChangeShapes Go.WideShapes
set_option linter.unusedVariables false
set_option linter.unusedSimpArgs false
def HearPost (l : Nat) (w : World) (e : Ending) (w' : World) : Prop :=
  ∃ tb q, e = .returned (.slice (some ⟨tb, 0, none⟩) 1 q) ∧ (∀ j u, toldV.toList[j]? = some u → w'.cell? ⟨tb, j, none⟩ = some u) ∧ Only (Just l) w w'
section
set_option maxHeartbeats 4000000
set_option maxRecDepth 100000
variable {l : Nat} {hv : Value} {s : SrvA} {w : World} {KO : OKind} {i : KO.ι} {cb mb : Nat} {hvc : Value}
theorem told_one (qb q : Nat) (hqb : qb ≠ l) (hc : CchB KO i w cb mb lc hvc 2 KO.s0 (fun _ => none)) (hk : ∀ k, cchBlk KO i cb mb lc hvc (fun _ => none) k → k ≠ l) (hch : s.cache = .pointer (some ⟨cb, 0, none⟩)) (hcur : s.cur = .pointer none) (ho : s.out = .slice none 0 0) (hq : s.queue = .slice (some ⟨qb, 0, none⟩) 1 q) (hq1 : 1 ≤ q)
    (hu : s.up = true) (hb1 : s.boots 0 = 1) (hr : ∀ j u, rqV.toList[j]? = some u → w.cell? ⟨qb, j, none⟩ = some u) (hb : Box w l 115 (srvC lc hv s)) :
    Calls Tryz.prog 64 #[.pointer (some ⟨l, 0, none⟩)] w (HearPost l w) := by
  have HA := Lib.hid (adv_one qb q hqb hc hk hch hcur ho hq hq1 hu hb1 hr hb)
  clear hb hc hk hch ho hqb hq1 hr hcur hq hu hb1
  go_enter Tryz.func64, Tryz.ntmps64
  go_wp2_with (go_at_call 101; refine HA.out.mono ?_; rintro e W1 ⟨rfl, tb, q5, jb, s', _, hb5, hcur5, hout5, htl, hc5, ho5⟩; have x59 := (srv_cell hb5 59 (by decide)).trans (by rw [← hout5]; rfl : some (srvF lc hv s' 59) = some (.slice (some ⟨tb, 0, none⟩) 1 q5)); have f59 := hb5.free 59; have HC5 := Lib.hid hc5; have HO5 := Lib.hid ho5; have HTL := Lib.hid htl; clear hb5 hcur5 hout5 htl hc5 ho5)
  go_ret
  have j4 : Only (Just l) W1 (W1.setCell ⟨l, 59, none⟩ (.slice none 0 0)) := (Only.refl (Just l) W1).setCell (p := ⟨l, 59, none⟩) (.inl (show Just l l from rfl)) _
  exact ⟨tb, q5, rfl, fun j u hj => j4.cell (HC5.out j u hj) (show ¬ tb = l from HTL.out), HO5.out.trans j4⟩
theorem client_read (hq : s.queue = .slice none 0 0) (h1 : s.boots 0 = 1) (hb : Box w l 115 (srvC lc hv s)) :
    Calls Tryz.prog 63 #[.pointer (some ⟨l, 0, none⟩), .int .i64 0, .agg (msgC mQ (.slice none 0 0))] w (AskPost l hv s w) := by
  have HB := Lib.hid hb
  have HQ := Lib.hid hq
  have H1 := Lib.hid h1
  have HLT := Lib.hid hb.lt
  clear hb h1 hq
  go_enter Tryz.func63, Tryz.ntmps63
  go_upto_region 1 with fail
  have HM := Lib.hid (Box.fresh w 25 (msgC mQ (.slice none 0 0)))
  have al := (Only.refl Non w).alloc (.cells (msgC mQ (.slice none 0 0)) 25)
  have HO := Lib.hid al
  have HB1 := Lib.hid (al.box HB.out id)
  change Code.wp _ _ _ _ (w.alloc (.cells (msgC mQ (.slice none 0 0)) 25))
  clear al
  generalize w.alloc (.cells (msgC mQ (.slice none 0 0)) 25) = W1 at *
  generalize w.heap.size = mb at *
  have z0 : W1.cell? ⟨mb, 0, none⟩ = some (.int .i64 1) := HM.out.cellAt rfl
  have HK := Lib.hid (ask_read HQ.out H1.out HB1.out)
  go_wp2_with (first | (refine wpList_load_row rfl 25 _ rfl mb rfl 25 (msgC mQ (.slice none 0 0)) (0, 0) _ HM.out Tryz.underlying25 rfl (by kernel_rfl) ?_) | (go_at_call 98; refine HK.out.mono ?_; rintro e W2 ⟨rfl, qb, q, hqb, hq1, hb2, hr2, ho2⟩))
  go_end0
  exact ⟨rfl, qb, q, Nat.le_trans HO.out.size hqb, hq1, hb2, hr2, (HO.out.mono fun k h => h.elim).trans ho2⟩
theorem mQ_right : msgB mQ 0 = true := by decide
theorem hear_read (hc : CchB KO i w cb mb lc hvc 2 KO.s0 (fun _ => none)) (hk : ∀ k, cchBlk KO i cb mb lc hvc (fun _ => none) k → k ≠ l) (hch : s.cache = .pointer (some ⟨cb, 0, none⟩)) (hcur : s.cur = .pointer none) (ho : s.out = .slice none 0 0) (hq : s.queue = .slice none 0 0)
    (hu : s.up = true) (hb1 : s.boots 0 = 1) (hb : Box w l 115 (srvC lc hv s)) :
    Calls Tryz.prog 25 #[.pointer (some ⟨l, 0, none⟩), .int .i64 0, .agg (msgC mQ (.slice none 0 0))] w (HearPost l w) := by
  have HB := Lib.hid hb
  have HC := Lib.hid hc
  have HK := Lib.hid hk
  have HCH := Lib.hid hch
  have HCU := Lib.hid hcur
  have HOU := Lib.hid ho
  have HQ := Lib.hid hq
  have HU := Lib.hid hu
  have H1 := Lib.hid hb1
  have HLT := Lib.hid hb.lt
  clear hb hc hk hch hcur ho hq hu hb1
  go_enter Tryz.func25, Tryz.ntmps25
  go_upto_region 2 with fail
  have HM := Lib.hid (Box.fresh w 25 (msgC mQ (.slice none 0 0)))
  have al := (Only.refl Non w).alloc (.cells (msgC mQ (.slice none 0 0)) 25)
  have HO := Lib.hid al
  have HB1 := Lib.hid (al.box HB.out id)
  have HC1 := Lib.hid (HC.out.keep al)
  change Code.wp _ _ _ _ (w.alloc (.cells (msgC mQ (.slice none 0 0)) 25))
  clear al
  generalize w.alloc (.cells (msgC mQ (.slice none 0 0)) 25) = W1 at *
  generalize w.heap.size = mb at *
  have HR := msg_right mQ none 0 0 W1
  rw [mQ_right] at HR
  have HR := Lib.hid HR
  have z0 : W1.cell? ⟨mb, 0, none⟩ = some (.int .i64 1) := HM.out.cellAt rfl
  have z1 : W1.cell? ⟨mb, 1, none⟩ = some (.int .i64 0) := HM.out.cellAt rfl
  have z2 : W1.cell? ⟨mb, 2, none⟩ = some (.int .i64 0) := HM.out.cellAt rfl
  have z3 : W1.cell? ⟨mb, 3, none⟩ = some (.int .i64 0) := HM.out.cellAt rfl
  have z4 : W1.cell? ⟨mb, 4, none⟩ = some (.int .i64 1) := HM.out.cellAt rfl
  have z5 : W1.cell? ⟨mb, 5, none⟩ = some (.int .i64 1) := HM.out.cellAt rfl
  have z6 : W1.cell? ⟨mb, 6, none⟩ = some (.int .i64 1) := HM.out.cellAt rfl
  have z7 : W1.cell? ⟨mb, 7, none⟩ = some (.int .i64 0) := HM.out.cellAt rfl
  have z8 : W1.cell? ⟨mb, 8, none⟩ = some (.int .i64 0) := HM.out.cellAt rfl
  have z9 : W1.cell? ⟨mb, 9, none⟩ = some (.bool false) := HM.out.cellAt rfl
  have z10 : W1.cell? ⟨mb, 10, none⟩ = some (.slice none 0 0) := HM.out.cellAt rfl
  go_upto_region 4 with (go_at_call 42; refine HR.out.mono ?_; rintro e W2 ⟨rfl, ho2⟩)
  have HM2 := Lib.hid (ho2.box HM.out id)
  have HB2 := Lib.hid (ho2.box HB1.out id)
  have HC2 := Lib.hid (HC1.out.keep ho2)
  have HO2 := Lib.hid (HO.out.trans ho2)
  clear z0 z1 z2 z3 z4 z5 z6 z7 z8 z9 z10 HR HM HB1 HC1 HO ho2
  have z0 : W2.cell? ⟨mb, 0, none⟩ = some (.int .i64 1) := HM2.out.cellAt rfl
  have y53 : W2.cell? ⟨l, 53, none⟩ = some (.int .i64 1) := (srv_cell HB2.out 53 (by decide)).trans (by rw [← H1.out]; rfl)
  have HT := Lib.hid (sthere_0 HB2.out)
  have HA := Lib.hid (client_read HQ.out H1.out HB2.out)
  go_upto_region 8 with (first | (go_at_call 62; refine HT.out.mono ?_; rintro e W3 ⟨rfl, rfl⟩) | (refine wpList_load_row rfl 25 _ rfl mb rfl 25 (msgC mQ (.slice none 0 0)) (0, 0) _ HM2.out Tryz.underlying25 rfl (by kernel_rfl) ?_) | (go_at_call 63; refine HA.out.mono ?_; rintro e W3 ⟨rfl, qb, q, hqb, hq1, hb3, hr3, ho3⟩))
  have hqn : qb ≠ l := by have h1 := HM2.out.lt; have h2 := HLT.out; omega
  have HTO := Lib.hid (told_one (s := { s with queue := .slice (some ⟨qb, 0, none⟩) 1 q }) qb q hqn (HC2.out.far' ho3 fun k hk e => HK.out k hk e) HK.out (by exact HCH.out) (by exact HCU.out) (by exact HOU.out) (by rfl) hq1 (by exact HU.out) (by exact H1.out) hr3 hb3)
  have HO3 := Lib.hid ((HO2.out.mono fun k h => h.elim : Only (Just l) w W2).trans ho3)
  clear hb3 hr3 ho3 hqb hq1 hqn HT HA HB2 HC2 HM2 z0 y53
  go_wp2_with (go_at_call 64; refine HTO.out.mono ?_; rintro e W4 ⟨tb, q4, rfl, hc4, ho4⟩)
  go_ret
  exact ⟨tb, q4, rfl, hc4, HO3.out.trans ho4⟩
end
end Go.Proofs.YtcphifphidcbaaaGreat
