/- A client begins a read, and is up: as gradinelaw20.wakes wants it. -/
import Derived.Test.YtcphifphidcbaaaGreatCla
import Derived.Test.YtcphifphidcbaaaGreatCln
import Derived.Test.YtcphifphidcbaaaGreatRws
import Derived.Test.YtcphifphidcbaaaGreatLea
namespace Go.Proofs.YtcphifphidcbaaaGreat
open Go.RowKit Go.ChangeShapes Go.WideShapes
set_option linter.unusedVariables false
set_option linter.unusedSimpArgs false
section
set_option maxHeartbeats 4000000
set_option maxRecDepth 100000
theorem wk_wrong (l cb sb : Nat) (u : Value) (A : Option Addr) (k cp : Nat) (w : World) (hl : Box w l 65 (cliCells lc (.slice A k cp) cb u (.slice (some ⟨sb, 0, none⟩) 1 1) 0 false (.slice none 0 0))) (hs : Box w sb 74 (slC 1 fun _ => zSl)) :
    Calls Tryz.prog 37 #[.pointer (some ⟨l, 0, none⟩), .int .i64 0, .bool false, .int .i64 1, .slice none 0 0] w fun e w' => e = .returned (.int .i64 0) ∧ w = w' := by
  have x2 : w.cell? ⟨l, 2, none⟩ = some (.int .i64 4) := hl.cellAt rfl
  have x19 : w.cell? ⟨l, 19, none⟩ = some (.slice (some ⟨sb, 0, none⟩) 1 1) := hl.cellAt rfl
  have y0 : w.cell? ⟨sb, 0, none⟩ = some (.int .i64 0) := hs.cellAt rfl
  clear hl hs
  go_enter Tryz.func37, Tryz.ntmps37
  go_wp2_with fail
  go_ret
  exact ⟨rfl, rfl⟩
theorem unis_no (l : Nat) (f5 : Int) (hf : f5 ≠ 1) (w : World) (h5 : w.cell? ⟨l, 5, none⟩ = some (.int .i64 f5)) : Calls Tryz.prog 73 #[.pointer (some ⟨l, 0, none⟩)] w fun e w' => e = .returned (.bool false) ∧ w = w' := by
  have hfb : (f5 == 1) = false := by simpa using hf
  go_enter Tryz.func73, Tryz.ntmps73
  go_wp2_with fail
  go_ret
  exact ⟨rfl, rfl⟩
theorem wk_level (l cb sb : Nat) (u : Value) (A : Option Addr) (k cp : Nat) (w : World) (hl : Box w l 65 (cliCells lc (.slice A k cp) cb u (.slice (some ⟨sb, 0, none⟩) 1 1) 1 false (.slice none 0 0))) :
    Calls Tryz.prog 38 #[.pointer (some ⟨l, 0, none⟩), .int .i64 1] w fun e w' => e = .returned (.tuple #[.int .i64 1, .slice none 0 0]) ∧ Only Non w w' := by
  have x4 : w.cell? ⟨l, 4, none⟩ = some (.int .i64 2) := hl.cellAt rfl
  have x5 : w.cell? ⟨l, 5, none⟩ = some (.int .i64 0) := hl.cellAt rfl
  have HT := Lib.hid (target_any (c := lc) (A := A) (n := k) (cp := cp) 1 0 w (by decide) (by decide) (by decide) (by decide) (by decide))
  have HL := Lib.hid hl
  have HN := Lib.hid (unis_no l 0 (by decide) w x5)
  clear hl x5
  go_enter Tryz.func38, Tryz.ntmps38
  go_wp2_with (first | (go_at_call 73; refine HN.out.mono ?_; rintro e W1 ⟨rfl, rfl⟩) | (refine wpList_load_mid rfl 42 _ rfl l 0 rfl (cfgCells lc (.slice A k cp)).toList _ (fun j v hj => by rw [Nat.zero_add]; exact HL.out.cellAt (by unfold cliCells; rw [Array.getElem?_append_left (by have := (List.getElem?_eq_some_iff.1 hj).1; simpa using this), ← Array.getElem?_toList]; exact hj)) Tryz.underlying42 rfl (by kernel_rfl) ?_) | (go_at_call 74; refine HT.out.mono ?_; rintro e W1 ⟨rfl, h1⟩))
  go_ret2
  exact ⟨rfl, h1⟩
def rdS : SltA := ⟨1, 1, 1, false, .slice none 0 0⟩
def BPost (l cb sb : Nat) (u : Value) (A : Option Addr) (k cp : Nat) (w : World) (e : Ending) (w' : World) : Prop :=
  e = .returned (.tuple #[.int .i64 1, .slice none 0 0, .int .i64 0]) ∧ Box w' l 65 (cliCells lc (.slice A k cp) cb u (.slice (some ⟨sb, 0, none⟩) 1 1) 1 false (.slice none 0 0)) ∧ Box w' sb 74 (slC 1 fun _ => rdS) ∧ Only (fun k => k = l ∨ k = sb) w w'
theorem wk_begin {K : OKind} {i : K.ι} {mb : Nat} {hv : Value} (l cb sb : Nat) (u : Value) (A : Option Addr) (k cp : Nat) (w : World) (hne : l ≠ sb) (hl : Box w l 65 (cliCells lc (.slice A k cp) cb u (.slice (some ⟨sb, 0, none⟩) 1 1) 0 false (.slice none 0 0))) (hs : Box w sb 74 (slC 1 fun _ => zSl))
    (hc : CchB K i w cb mb lc hv 1 K.s0 (fun _ => none)) (hk : ∀ k, cchBlk K i cb mb lc hv (fun _ => none) k → k ≠ l) :
    Calls Tryz.prog 8 #[.pointer (some ⟨l, 0, none⟩), .int .i64 0, .bool false, .int .i64 1, .slice none 0 0] w (BPost l cb sb u A k cp w) := by
  have HW := Lib.hid (wk_wrong l cb sb u A k cp w hl hs)
  have x20 : w.cell? ⟨l, 20, none⟩ = some (.int .i64 0) := hl.cellAt rfl
  have f20 : w.frozen? ⟨l, 20, none⟩ = false := hl.free _
  have HL := Lib.hid hl
  have HS := Lib.hid hs
  have HC := Lib.hid hc
  have HK := Lib.hid hk
  have HNE := Lib.hid hne
  clear hl hs hc hk hne
  go_enter Tryz.func8, Tryz.ntmps8
  go_upto_region 5 with (go_at_call 37; refine HW.out.mono ?_; rintro e W1 ⟨rfl, rfl⟩)
  have j1 : Only (Just l) w (w.setCell ⟨l, 20, none⟩ (.int .i64 1)) := (Only.refl (Just l) w).setCell (p := ⟨l, 20, none⟩) (.inl (show Just l l from rfl)) _
  have HL1 := Lib.hid (show Box (w.setCell ⟨l, 20, none⟩ (.int .i64 1)) l 65 (cliCells lc (.slice A k cp) cb u (.slice (some ⟨sb, 0, none⟩) 1 1) 1 false (.slice none 0 0)) from HL.out.store 20 (.int .i64 1))
  have HS1 := Lib.hid (j1.box HS.out (show ¬ sb = l from fun e => HNE.out e.symm))
  have HC1 := Lib.hid (HC.out.far' j1 fun k hk e => HK.out k hk e)
  have HO1 := Lib.hid (show Only (fun k => k = l ∨ k = sb) w (w.setCell ⟨l, 20, none⟩ (.int .i64 1)) from j1.mono fun k hk => .inl (.inl hk))
  change Code.wp _ _ _ _ (w.setCell ⟨l, 20, none⟩ (.int .i64 1))
  clear j1 HL HS HC HW x20 f20
  generalize w.setCell ⟨l, 20, none⟩ (.int .i64 1) = W1 at *
  have HV := Lib.hid (wk_level l cb sb u A k cp W1 HL1.out)
  go_upto_region 6 with (go_at_call 38; refine HV.out.mono ?_; rintro e W2 ⟨rfl, ho2⟩)
  have HL2 := Lib.hid (ho2.box HL1.out id)
  have HS2 := Lib.hid (ho2.box HS1.out id)
  have HC2 := Lib.hid (HC1.out.keep ho2)
  have HO2 := Lib.hid (HO1.out.trans' ho2 fun _ h => h.elim)
  clear ho2 HL1 HS1 HC1 HO1 HV
  have HU := Lib.hid (cch_use_no 1 HC2.out (by rw [K.nil]; simp))
  have x17 : W2.cell? ⟨l, 17, none⟩ = some (.pointer (some ⟨cb, 0, none⟩)) := HL2.out.cellAt rfl
  go_upto_region 11 with (go_at_call 39; refine HU.out.mono ?_; rintro e W3 ⟨rfl, ho3⟩)
  have HL3 := Lib.hid (ho3.box HL2.out id)
  have HS3 := Lib.hid (ho3.box HS2.out id)
  have HO3 := Lib.hid (HO2.out.trans' ho3 fun _ h => h.elim)
  clear ho3 HL2 HS2 HC2 HO2 HU x17
  have x19 : W3.cell? ⟨l, 19, none⟩ = some (.slice (some ⟨sb, 0, none⟩) 1 1) := HL3.out.cellAt rfl
  have x20 : W3.cell? ⟨l, 20, none⟩ = some (.int .i64 1) := HL3.out.cellAt rfl
  have y0 : W3.cell? ⟨sb, 0, none⟩ = some (.int .i64 0) := HS3.out.cellAt rfl
  have y1 : W3.cell? ⟨sb, 1, none⟩ = some (.int .i64 0) := HS3.out.cellAt rfl
  have y2 : W3.cell? ⟨sb, 2, none⟩ = some (.int .i64 0) := HS3.out.cellAt rfl
  have y3 : W3.cell? ⟨sb, 3, none⟩ = some (.bool false) := HS3.out.cellAt rfl
  have y4 : W3.cell? ⟨sb, 4, none⟩ = some (.slice none 0 0) := HS3.out.cellAt rfl
  have z0 : W3.frozen? ⟨sb, 0, none⟩ = false := HS3.out.free _
  have z1 : W3.frozen? ⟨sb, 1, none⟩ = false := HS3.out.free _
  have z2 : W3.frozen? ⟨sb, 2, none⟩ = false := HS3.out.free _
  have z3 : W3.frozen? ⟨sb, 3, none⟩ = false := HS3.out.free _
  have z4 : W3.frozen? ⟨sb, 4, none⟩ = false := HS3.out.free _
  go_region
  obtain ⟨W4, e4⟩ : ∃ W4, W4 = (((((W3.setCell ⟨sb, 0, none⟩ (.int .i64 1)).setCell ⟨sb, 1, none⟩ (.int .i64 1)).setCell ⟨sb, 2, none⟩ (.int .i64 1)).setCell ⟨sb, 3, none⟩ (.bool false)).setCell ⟨sb, 4, none⟩ (.slice none 0 0)).drew := ⟨_, rfl⟩
  have HS4 := Lib.hid (show Box W4 sb 74 (slC 1 fun _ => rdS) from e4 ▸ (((((HS3.out.store 0 (.int .i64 1)).store 1 (.int .i64 1)).store 2 (.int .i64 1)).store 3 (.bool false)).store 4 (.slice none 0 0)).drew)
  have j4 : Only (Just sb) W3 W4 := e4 ▸ ((((((Only.refl (Just sb) W3).setCell (p := ⟨sb, 0, none⟩) (.inl (show Just sb sb from rfl)) _).setCell (p := ⟨sb, 1, none⟩) (.inl (show Just sb sb from rfl)) _).setCell (p := ⟨sb, 2, none⟩) (.inl (show Just sb sb from rfl)) _).setCell (p := ⟨sb, 3, none⟩) (.inl (show Just sb sb from rfl)) _).setCell (p := ⟨sb, 4, none⟩) (.inl (show Just sb sb from rfl)) _).drew
  have HL4 := Lib.hid (j4.box HL3.out (show ¬ l = sb from HNE.out))
  have HO4 := Lib.hid (HO3.out.trans' j4 fun k hk => .inl (.inr hk))
  rw [← e4]
  clear e4 j4 HS3 HL3 HO3 x19 x20 y0 y1 y2 y3 y4 z0 z1 z2 z3 z4
  have x20 : W4.cell? ⟨l, 20, none⟩ = some (.int .i64 1) := HL4.out.cellAt rfl
  have x21 : W4.cell? ⟨l, 21, none⟩ = some (.bool false) := HL4.out.cellAt rfl
  go_wp2
  go_ret3
  exact ⟨rfl, HL4.out, HS4.out, HO4.out⟩
def askV : Array Value := #[.int .i64 1, .int .i64 0, .int .i64 0, .int .i64 0, .int .i64 1, .int .i64 1, .int .i64 1, .int .i64 0, .int .i64 0, .bool false, .slice none 0 0]
theorem askV_one : askV.all (·.oneCell') = true := by simp [askV, Value.oneCell']
theorem askL_one : ∀ u ∈ askV.toList, u.oneCell' = true := by simp [askV, Value.oneCell']
theorem wk_ask (l sb : Nat) (w : World) (x19 : w.cell? ⟨l, 19, none⟩ = some (.slice (some ⟨sb, 0, none⟩) 1 1)) (hs : Box w sb 74 (slC 1 fun _ => rdS)) :
    Calls Tryz.prog 41 #[.pointer (some ⟨l, 0, none⟩), .int .i64 0] w fun e w' => e = .returned (.agg askV) ∧ Only Non w w' := by
  have HS := Lib.hid hs
  have HO := Lib.hid ((Only.refl Non w).alloc (.cells #[.int .i64 0, .int .i64 0, .int .i64 0, .int .i64 0, .int .i64 0, .int .i64 0, .int .i64 0, .int .i64 0, .int .i64 0, .bool false, .slice none 0 0] 25))
  have HB := Lib.hid (Box.fresh w 25 #[.int .i64 0, .int .i64 0, .int .i64 0, .int .i64 0, .int .i64 0, .int .i64 0, .int .i64 0, .int .i64 0, .int .i64 0, .bool false, .slice none 0 0])
  clear hs
  go_enter Tryz.func41, Tryz.ntmps41
  go_upto_region 1 with fail
  obtain ⟨mb, hmb⟩ : ∃ mb, mb = w.heap.size := ⟨_, rfl⟩
  have HME := Lib.hid (show w.heap.size ≤ mb from Nat.le_of_eq hmb.symm)
  have HS1 := Lib.hid ((HO.out).box HS.out id)
  have y19 := HO.out.cell x19 id
  rw [← hmb] at HB ⊢
  clear hmb HS x19
  generalize w.alloc (.cells #[.int .i64 0, .int .i64 0, .int .i64 0, .int .i64 0, .int .i64 0, .int .i64 0, .int .i64 0, .int .i64 0, .int .i64 0, .bool false, .slice none 0 0] 25) = W1 at *
  have y0 : W1.cell? ⟨sb, 0, none⟩ = some (.int .i64 1) := HS1.out.cellAt rfl
  have y1 : W1.cell? ⟨sb, 1, none⟩ = some (.int .i64 1) := HS1.out.cellAt rfl
  have y2 : W1.cell? ⟨sb, 2, none⟩ = some (.int .i64 1) := HS1.out.cellAt rfl
  have y3 : W1.cell? ⟨sb, 3, none⟩ = some (.bool false) := HS1.out.cellAt rfl
  have y4 : W1.cell? ⟨sb, 4, none⟩ = some (.slice none 0 0) := HS1.out.cellAt rfl
  go_upto_region 2 with fail
  have ho2 : Only Non W1 (W1.alloc (.cells #[.int .i64 1, .int .i64 1, .int .i64 1, .bool false, .slice none 0 0] 74)) := (Only.refl Non W1).alloc _
  have HB2 := Lib.hid (Box.fresh W1 74 #[.int .i64 1, .int .i64 1, .int .i64 1, .bool false, .slice none 0 0])
  have HM2 := Lib.hid (ho2.box HB.out id)
  have HO2 := Lib.hid (HO.out.trans ho2)
  change Code.wp _ _ _ _ (W1.alloc (.cells #[.int .i64 1, .int .i64 1, .int .i64 1, .bool false, .slice none 0 0] 74))
  clear ho2 HB HO HS1 y19 y0 y1 y2 y3 y4
  generalize W1.alloc (.cells #[.int .i64 1, .int .i64 1, .int .i64 1, .bool false, .slice none 0 0] 74) = W2 at *
  generalize W1.heap.size = tb at *
  have y0 : W2.cell? ⟨tb, 0, none⟩ = some (.int .i64 1) := HB2.out.cellAt rfl
  have y1 : W2.cell? ⟨tb, 1, none⟩ = some (.int .i64 1) := HB2.out.cellAt rfl
  have y2 : W2.cell? ⟨tb, 2, none⟩ = some (.int .i64 1) := HB2.out.cellAt rfl
  have y3 : W2.cell? ⟨tb, 3, none⟩ = some (.bool false) := HB2.out.cellAt rfl
  go_upto_region 3 with fail
  have ho3 : Only Non W2 (W2.alloc (.cells #[.int .i64 1, .int .i64 0, .int .i64 0, .int .i64 0, .int .i64 1, .int .i64 1, .int .i64 1, .int .i64 0, .int .i64 0, .bool false, .slice none 0 0] 25)) := (Only.refl Non W2).alloc _
  have HN3 := Lib.hid (Box.fresh W2 25 askV)
  have HM3 := Lib.hid (ho3.box HM2.out id)
  have HO3 := Lib.hid (HO2.out.trans ho3)
  have y3' := ho3.cell y3 id
  change Code.wp _ _ _ _ (W2.alloc (.cells askV 25))
  clear ho3 HM2 HO2 HB2 y0 y1 y2 y3
  change Hid (Box (W2.alloc (.cells askV 25)) _ _ _) at HM3
  change Hid (Only _ _ (W2.alloc (.cells askV 25))) at HO3
  change (W2.alloc (.cells askV 25)).cell? _ = _ at y3'
  generalize W2.alloc (.cells askV 25) = W3 at *
  generalize W2.heap.size = nb at *
  go_wp2_with (first | (refine wpList_load_row rfl 25 _ rfl nb rfl 25 askV (0, 0) _ HN3.out Tryz.underlying25 rfl (by kernel_rfl) ?_) | (refine wpList_store_row rfl 25 _ _ rfl mb askV rfl rfl 25 _ HM3.out (by kernel_rfl) rfl askV_one ?_))
  (try simp only [Exit.inBlock, Exit.then])
  refine bodyPost_ret (results_cell_row rfl _ _ mb _ askV (0, 0) _ rfl (HM3.out.setRow' _) Tryz.underlying25 rfl (by kernel_rfl)) rfl ?_
  exact ⟨rfl, HO3.out.setRow' (.inr HME.out) _⟩
theorem msgInfo : (Tryz.prog.info? 25).map (fun i => (i.zero, i.size, i.bytes)) = some (some (.agg #[.int .i64 0, .int .i64 0, .int .i64 0, .int .i64 0, .int .i64 0, .int .i64 0, .int .i64 0, .int .i64 0, .int .i64 0, .bool false, .slice none 0 0]), 11, 104) := by kernel_rfl
def UpRel (W1 : World) (told i : Value) (wr : World) : Prop :=
  ∃ k : Nat, k ≤ 1 ∧ i = .int .i64 k ∧ Only Non W1 wr ∧ (k = 0 → told = .slice none 0 0) ∧ (k = 1 → ∃ tb c, told = .slice (some ⟨tb, 0, none⟩) 1 c ∧ wr.cell? ⟨tb, 0, none⟩ = some (.int .i64 1) ∧ wr.cell? ⟨tb, 5, none⟩ = some (.int .i64 1))
theorem wk_up (l cb sb : Nat) (u : Value) (A : Option Addr) (k cp : Nat) (w : World) (hne : l ≠ sb) (hl : Box w l 65 (cliCells lc (.slice A k cp) cb u (.slice (some ⟨sb, 0, none⟩) 1 1) 1 false (.slice none 0 0))) (hs : Box w sb 74 (slC 1 fun _ => rdS)) :
    Calls Tryz.prog 10 #[.pointer (some ⟨l, 0, none⟩)] w fun e w' => ∃ tb c, e = .returned (.slice (some ⟨tb, 0, none⟩) 1 c) ∧ w'.cell? ⟨tb, 0, none⟩ = some (.int .i64 1) ∧ w'.cell? ⟨tb, 5, none⟩ = some (.int .i64 1) ∧ Only (Just l) w w' := by
  have x21 : w.cell? ⟨l, 21, none⟩ = some (.bool false) := hl.cellAt rfl
  have f21 : w.frozen? ⟨l, 21, none⟩ = false := hl.free _
  have HL := Lib.hid hl
  have HS := Lib.hid hs
  have HNE := Lib.hid hne
  clear hl hs hne
  go_enter Tryz.func10, Tryz.ntmps10
  go_upto_region 4 with fail
  have j1 : Only (Just l) w (w.setCell ⟨l, 21, none⟩ (.bool true)) := (Only.refl (Just l) w).setCell (p := ⟨l, 21, none⟩) (.inl (show Just l l from rfl)) _
  have x19 : (w.setCell ⟨l, 21, none⟩ (.bool true)).cell? ⟨l, 19, none⟩ = some (.slice (some ⟨sb, 0, none⟩) 1 1) := (HL.out.store 21 (.bool true)).cellAt rfl
  have HS1 := Lib.hid (j1.box HS.out (show ¬ sb = l from fun e => HNE.out e.symm))
  have HJ := Lib.hid j1
  change Code.wp _ _ _ _ (w.setCell ⟨l, 21, none⟩ (.bool true))
  clear j1 HL HS x21 f21
  generalize w.setCell ⟨l, 21, none⟩ (.bool true) = W1 at *
  go_wp2_with fail
  have X19 := Lib.hid x19
  clear x19
  go_loopw [3, 16] (fun told i wr => UpRel W1 told i wr) (fun _ i _ => 1 - (intOf i).toNat)
  case atStart => exact ⟨0, by omega, rfl, Only.refl _ _, fun _ => rfl, fun h => by cases h⟩
  case round =>
    obtain ⟨q, hq, rfl, ho, h0, h1⟩ := hrel
    rcases (show q = 0 ∨ q = 1 by omega) with rfl | rfl
    · obtain rfl := h0 rfl
      have HO := Lib.hid ho
      have HS2 := Lib.hid (ho.box HS1.out id)
      have X2 := Lib.hid (ho.cell X19.out id)
      clear h0 h1 ho hq
      have y0 : wr.cell? ⟨sb, 0, none⟩ = some (.int .i64 1) := HS2.out.cellAt rfl
      have y1 : wr.cell? ⟨sb, 1, none⟩ = some (.int .i64 1) := HS2.out.cellAt rfl
      have y2 : wr.cell? ⟨sb, 2, none⟩ = some (.int .i64 1) := HS2.out.cellAt rfl
      have y3 : wr.cell? ⟨sb, 3, none⟩ = some (.bool false) := HS2.out.cellAt rfl
      have y4 : wr.cell? ⟨sb, 4, none⟩ = some (.slice none 0 0) := HS2.out.cellAt rfl
      go_upto_region 8 with fail
      have ho3 : Only Non wr (wr.alloc (.cells #[.int .i64 1, .int .i64 1, .int .i64 1, .bool false, .slice none 0 0] 74)) := (Only.refl _ _).alloc _
      have HB3 := Lib.hid (Box.fresh wr 74 #[.int .i64 1, .int .i64 1, .int .i64 1, .bool false, .slice none 0 0])
      have HS3 := Lib.hid (ho3.box HS2.out id)
      have X3 := Lib.hid (ho3.cell X2.out id)
      have HO3 := Lib.hid (HO.out.trans ho3)
      change Code.wp _ _ _ _ (wr.alloc (.cells #[.int .i64 1, .int .i64 1, .int .i64 1, .bool false, .slice none 0 0] 74))
      clear ho3 HS2 X2 HO y0 y1 y2 y3 y4
      generalize wr.alloc (.cells #[.int .i64 1, .int .i64 1, .int .i64 1, .bool false, .slice none 0 0] 74) = W3 at *
      generalize wr.heap.size = tb at *
      have y0 : W3.cell? ⟨tb, 0, none⟩ = some (.int .i64 1) := HB3.out.cellAt rfl
      have HA := wk_ask l sb W3 X3.out HS3.out
      unfold askV at HA
      have HA := Lib.hid HA
      rw [show ((0 : Nat) : Int) = 0 from rfl]
      go_upto_region 10 with (first | (go_at_call 41; refine HA.out.mono ?_; rintro e W4 ⟨rfl, ho4⟩) | (at_builtin; refine wpList_wide _ rfl (.tmp 24) (.tmp 28) 28 25 rfl msgInfo rfl (by decide) Tryz.underlying28 0 _ 0 [] askV.toList rfl (World.ownsRow_nil _ _ _ _) ⟨W4.heap.size, 0, none⟩ rfl rfl (cells_new _ askV.toList _) askL_one (by decide) (by decide) (Nat.zero_le _) ?_; intro v' w1 h2 h3 h4; have H2 := Lib.hid h2; have H3 := Lib.hid h3; clear h2 h3 h4))
      obtain ⟨g, c, hv', _, _, hc⟩ := ownsRow_cell H2.out (by decide)
      have HC := Lib.hid (show w1.cell? ⟨g, 0, none⟩ = some (.int .i64 1) ∧ w1.cell? ⟨g, 5, none⟩ = some (.int .i64 1) ∧ Only Non W1 w1 from ⟨hc 0 _ rfl, hc 5 _ rfl, (((HO3.out.trans ho4).alloc (.cells askV 25)).trans' H3.out fun k hk => (ownB_none hk).elim)⟩)
      clear hc H2 H3 ho4 HO3
      subst hv'
      go_wp2_with fail
      refine ⟨⟨1, by decide, rfl, HC.out.2.2, fun (h : (1 : Nat) = 0) => absurd h (by decide), fun _ => ⟨g, c, rfl, HC.out.1, HC.out.2.1⟩⟩, ?_⟩
      decide
    · have h1' := h1 rfl
      obtain ⟨tb, c, rfl, hc0, hc5⟩ := h1'
      have HC := Lib.hid (show wr.cell? ⟨tb, 0, none⟩ = some (.int .i64 1) ∧ wr.cell? ⟨tb, 5, none⟩ = some (.int .i64 1) ∧ Only (Just l) w wr from ⟨hc0, hc5, HJ.out.trans' ho fun _ h => h.elim⟩)
      clear hc0 hc5 h0 h1
      rw [show ((1 : Nat) : Int) = 1 from rfl]
      go_wp2_with fail
      go_ret
      exact ⟨tb, c, rfl, HC.out⟩
end
end Go.Proofs.YtcphifphidcbaaaGreat
