/- array.New, of any configuration, over a disk whose journal is empty. -/
import Derived.Test.YtcphifphidcbaaaGreatSte
import Derived.Test.YtcphifphidcbaaaGreatCln
namespace Go.Proofs.YtcphifphidcbaaaGreat
open Go.RowKit Go.ChangeShapes Go.WideShapes
set_option linter.unusedVariables false
set_option linter.unusedSimpArgs false
def shOf (c : CfgA) : Nat → Int := fun i => if i = 0 then c.f 2 else if i = 1 then c.f 3 else if i = 2 then c.f 0 else c.f 1
theorem shOf_ok {c : CfgA} (h : CfgP c) : ShP (shOf c) := by
  have h0 := h.p0; have h1 := h.p1; have h2 := h.p2; have h3 := h.p3
  exact ⟨h2.1, h2.2, h3.1, h3.2, h0.1, h0.2, h1.1, h1.2⟩
def arrC (c : CfgA) (hv : Value) (sb cb : Nat) (down : Bool) (reads : Int) (lm : Value) : Array Value := cfgCells c hv ++ #[.pointer (some ⟨sb, 0, none⟩), .pointer (some ⟨cb, 0, none⟩), .bool down, .int .i64 reads, lm]
theorem arr_f (c : CfgA) (hv : Value) (sb cb : Nat) (down : Bool) (reads : Int) (lm : Value) {i : Nat} (hi : i < 16) : (arrC c hv sb cb down reads lm)[i]? = some (.int .i64 (c.f i)) := by
  unfold arrC
  rw [Array.getElem?_append_left (by show i < 17; omega)]
  exact cfgCells_at c hv hi
theorem built_arr (c : CfgA) (A : Option Addr) (n cp sb cb mb : Nat) : Tryz.prog.built 97 [(0, .agg (cfgCells c (.slice A n cp))), (1, .pointer (some ⟨sb, 0, none⟩)), (2, .pointer (some ⟨cb, 0, none⟩)), (5, .map (some mb))] = some (arrC c (.slice A n cp) sb cb false 0 (.map (some mb))) := by kernel_rfl
def ArPost (K : OKind) (c : CfgA) (A : Option Addr) (n cp db lb : Nat) (V : Nat → Value) (d : DskS) (w : World) (e : Ending) (w' : World) : Prop :=
  ∃ i ab cb mb sb hvc lm, e = .returned (.tuple #[.pointer (some ⟨ab, 0, none⟩), .int .i64 0]) ∧ Box w' ab 97 (arrC c (.slice A n cp) sb cb false 0 lm) ∧ CchB K i w' cb mb c hvc 3 K.s0 (fun _ => none) ∧ StoB w' sb db lb V (shOf c) d ∧
    (∀ k, cchBlk K i cb mb c hvc (fun _ => none) k → w.heap.size ≤ k ∧ k < sb) ∧ w.heap.size ≤ sb ∧ sb < ab ∧ Only Non w w'
section
set_option maxHeartbeats 4000000
set_option maxRecDepth 100000
theorem arr_new {KO : OKind} {c : CfgA} (hK : KO.Made c 3) (hP : CfgP c) {A : Option Addr} {n cp : Nat} {db lb : Nat} {V : Nat → Value} {d : DskS} (w : World) (hin : HintsAt w A n cp c.h)
    (h : DskB w db lb V d) (f0 : -1 ≤ d.fuse) (f1 : d.fuse ≤ 9223372036854775807) (hb : ∀ i, IsB (d.sec i)) (he : d.sec 0 = []) :
    Calls Tryz.prog 18 #[.agg (cfgCells c (.slice A n cp)), .pointer (some ⟨db, 0, none⟩)] w (ArPost KO c A n cp db lb V d w) := by
  have HD := Lib.hid h
  have HP := Lib.hid hP
  have HF := Lib.hid (show (-1 ≤ d.fuse ∧ d.fuse ≤ 9223372036854775807) ∧ (∀ i, IsB (d.sec i)) ∧ d.sec 0 = [] from ⟨⟨f0, f1⟩, hb, he⟩)
  have HI := Lib.hid hin
  have HNW := Lib.hid (fun w hin => cch_new (A := A) (n := n) (cp := cp) hK hP (by decide : 1 ≤ 3) (by decide : 3 ≤ 3) w hin)
  clear h f0 f1 hb he hin hP
  go_enter Tryz.func18, Tryz.ntmps18
  go_upto_region 1 with fail
  have al1 := (Only.refl Non w).alloc (.cells (cfgCells c (.slice A n cp)) 42)
  have HB1 := Lib.hid (Box.fresh w 42 (cfgCells c (.slice A n cp)))
  have HO1 := Lib.hid al1
  have HR := Lib.hid (HNW.out _ (HI.out.keep al1))
  change Code.wp _ _ _ _ (w.alloc (.cells (cfgCells c (.slice A n cp)) 42))
  clear al1
  generalize w.alloc (.cells (cfgCells c (.slice A n cp)) 42) = W1 at *
  generalize hbb : w.heap.size = bb at *
  have HBB := Lib.hid hbb
  clear hbb
  go_upto_region 2 with (first | (refine wpList_load_row rfl 42 _ rfl bb rfl 42 (cfgCells c (.slice A n cp)) (0, 0) _ HB1.out Tryz.underlying42 rfl (by kernel_rfl) ?_) | (go_at_call 48; refine HR.out.mono ?_; rintro e W2 ⟨i, cb, mb, hvc, rfl, hc2, hF2, hcb2, hmb2, hhv2, ho2⟩))
  have HB2 := Lib.hid (ho2.box HB1.out id)
  have HO2 := Lib.hid (HO1.out.trans ho2)
  have HC2 := Lib.hid hc2
  have HP2 := Lib.hid (show ∀ k, cchBlk KO i cb mb c hvc (fun _ => none) k → w.heap.size ≤ k ∧ k < W2.heap.size from by
    have hsz := HO1.out.size
    intro k hk
    have h3 := hc2.blkLt hk
    rcases hk with hk | hk | hk | ⟨_, _, _, hk, _⟩ | hk
    · have := hF2 k hk; exact ⟨by omega, h3⟩
    · exact ⟨by omega, h3⟩
    · exact ⟨by omega, h3⟩
    · cases hk
    · have := hhv2 hk.1 k hk.2; exact ⟨by omega, h3⟩)
  have HD2 := Lib.hid ((HD.out.keep HO1.out).keep ho2)
  clear ho2 HB1 HO1 HR hc2 hF2 hcb2 hmb2 hhv2 HNW
  have x0 : W2.cell? ⟨bb, 0, none⟩ = some (.int .i64 (c.f 0)) := HB2.out.cellAt (cfgCells_at c _ (by decide))
  have x1 : W2.cell? ⟨bb, 1, none⟩ = some (.int .i64 (c.f 1)) := HB2.out.cellAt (cfgCells_at c _ (by decide))
  have x2 : W2.cell? ⟨bb, 2, none⟩ = some (.int .i64 (c.f 2)) := HB2.out.cellAt (cfgCells_at c _ (by decide))
  have x3 : W2.cell? ⟨bb, 3, none⟩ = some (.int .i64 (c.f 3)) := HB2.out.cellAt (cfgCells_at c _ (by decide))
  have HOP := Lib.hid (sto_open0 (shOf_ok HP.out) HD2.out HF.out.1.1 HF.out.1.2 HF.out.2.1 HF.out.2.2)
  go_upto_region 5 with (go_at_call 54; refine HOP.out.mono ?_; rintro e W3 ⟨sb, rfl, hs3, hsb3, ho3⟩)
  have HB3 := Lib.hid (ho3.box HB2.out id)
  have HC3 := Lib.hid (HC2.out.keep ho3)
  have HS3 := Lib.hid hs3
  have HO3 := Lib.hid (HO2.out.trans ho3)
  have HSB := Lib.hid (show W2.heap.size ≤ sb ∧ sb < W3.heap.size from ⟨hsb3, hs3.box.lt⟩)
  clear ho3 hs3 hsb3 HOP x0 x1 x2 x3 HB2 HC2
  have hmk := @run_makeMap Tryz.prog
  go_upto_region 7 with fail
  go_wp2_with (first | (refine wpList_load_row rfl 42 _ rfl bb rfl 42 (cfgCells c (.slice A n cp)) (0, 0) _ HB3.out Tryz.underlying42 rfl (by kernel_rfl) ?_) | (refine wpList_build' rfl _ _ rfl [(0, .agg (cfgCells c (.slice A n cp))), (1, .pointer (some ⟨sb, 0, none⟩)), (2, .pointer (some ⟨cb, 0, none⟩)), (5, .map (some W3.heap.size))] _ (by simp [Act.eval]) (built_arr c A n cp sb cb W3.heap.size) ?_))
  go_ret2
  have al5 := (Only.refl Non W3).alloc (.map #[] 0)
  have hbx := Box.fresh (W3.alloc (.map #[] 0)) 97 (arrC c (.slice A n cp) sb cb false 0 (.map (some W3.heap.size)))
  have al6 := (Only.refl Non (W3.alloc (.map #[] 0))).alloc (.cells (arrC c (.slice A n cp) sb cb false 0 (.map (some W3.heap.size))) 97)
  have hz : (W3.alloc (.map #[] 0)).heap.size = W3.heap.size + 1 := by simp
  rw [hz] at hbx
  refine ⟨i, W3.heap.size + 1, cb, mb, sb, hvc, .map (some W3.heap.size), ?_, hbx, (HC3.out.keep al5).keep al6, (HS3.out.keep al5).keep al6, fun k hk => ?_, ?_, ?_, (HO3.out.trans al5).trans al6⟩
  · simp
  · have h1 := HP2.out k hk; have h2 := HSB.out; exact ⟨h1.1, by omega⟩
  · have h1 := HO2.out.size; have h2 := HSB.out; omega
  · have h2 := HSB.out; omega
end
end Go.Proofs.YtcphifphidcbaaaGreat
