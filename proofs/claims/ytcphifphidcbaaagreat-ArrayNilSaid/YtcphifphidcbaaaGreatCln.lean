/- A client in memory; client.New. Printed by cln.py. -/
import Derived.Test.YtcphifphidcbaaaGreatCnw
import Derived.Test.YtcphifphidcbaaaGreatUnA
namespace Go.Proofs.YtcphifphidcbaaaGreat
open Go.RowKit Go.ChangeShapes Go.WideShapes
set_option linter.unusedVariables false
set_option linter.unusedSimpArgs false
structure SltA where
  op : Int
  blk : Int
  lev : Int
  wr : Bool
  dat : Value
def fldS (s : SltA) : Nat → Value
  | 0 => .int .i64 s.op
  | 1 => .int .i64 s.blk
  | 2 => .int .i64 s.lev
  | 3 => .bool s.wr
  | _ => s.dat
def zSl : SltA := ⟨0, 0, 0, false, .slice none 0 0⟩
def slC (n : Nat) (S : Nat → SltA) : Array Value := Array.ofFn (n := n * 5) fun i => fldS (S (i.1 / 5)) (i.1 % 5)
theorem slC_size (n : Nat) (S : Nat → SltA) : (slC n S).size = n * 5 := by simp [slC]
theorem slC_at (n : Nat) (S : Nat → SltA) {b j : Nat} (hb : b < n) (hj : j < 5) : (slC n S)[b * 5 + j]? = some (fldS (S b) j) := by
  have h1 : b * 5 + j < n * 5 := by omega
  have h2 : (b * 5 + j) / 5 = b := by omega
  have h3 : (b * 5 + j) % 5 = j := by omega
  simp [slC, h1, h2, h3]
theorem slotInfo : (Tryz.prog.info? 74).map (fun i => (i.zero, i.size, i.bytes)) = some (some (.agg #[.int .i64 0, .int .i64 0, .int .i64 0, .bool false, .slice none 0 0]), 5, 56) := by kernel_rfl
theorem made5 (m : Nat) : Builtin.zeroCells #[.int .i64 0, .int .i64 0, .int .i64 0, .bool false, .slice none 0 0] m = slC m (fun _ => zSl) := by
  unfold Builtin.zeroCells slC
  refine Array.ext (by simp) fun i h1 h2 => ?_
  simp only [Array.getElem_ofFn]
  have h5 : i % 5 < 5 := Nat.mod_lt _ (by decide)
  simp only [Array.getElem_map, Array.getElem_range]
  show (#[Value.int .i64 0, .int .i64 0, .int .i64 0, .bool false, .slice none 0 0] : Array Value)[i % 5]! = fldS zSl (i % 5)
  generalize i % 5 = j at *
  rcases (show j = 0 ∨ j = 1 ∨ j = 2 ∨ j = 3 ∨ j = 4 by omega) with rfl | rfl | rfl | rfl | rfl <;> rfl
theorem run_make5 (m : Nat) (hm : m ≤ 4) (w : World) : (Instr.makeSlice 63 (.int .i64 m) (.int .i64 m)).run Tryz.prog w = .ok (.slice (some ⟨w.heap.size, 0, none⟩) m m) (w.alloc (.cells (slC m (fun _ => zSl)) 74)) := by
  obtain ⟨i, hi, hzz⟩ := Option.map_eq_some_iff.1 slotInfo
  simp only [Prod.mk.injEq] at hzz
  obtain ⟨hz, hs, hb⟩ := hzz
  have := run_make (P := Tryz.prog) w 63 74 i _ Tryz.underlying63 hi hz .i64 .i64 m m (by omega) (Int.le_refl _) (by rw [hb]; omega) (by omega)
  rw [hs] at this
  rw [this, ← made5]
  rfl
def cliCells (c : CfgA) (hv : Value) (cb : Nat) (u : Value) (sl : Value) (ops : Int) (up : Bool) (en : Value) : Array Value := cfgCells c hv ++ #[.pointer (some ⟨cb, 0, none⟩), u, sl, .int .i64 ops, .bool up, en]
theorem cli_f (c : CfgA) (hv : Value) (cb : Nat) (u : Value) (sl : Value) (ops : Int) (up : Bool) (en : Value) {i : Nat} (hi : i < 16) : (cliCells c hv cb u sl ops up en)[i]? = some (.int .i64 (c.f i)) := by
  unfold cliCells
  rw [Array.getElem?_append_left (by show i < 17; omega)]
  exact cfgCells_at c hv hi
theorem built_cli (c : CfgA) (A : Option Addr) (n cp : Nat) (cb sb m : Nat) : Tryz.prog.built 65 [(0, .agg (cfgCells c (.slice A n cp))), (1, .pointer (some ⟨cb, 0, none⟩)), (3, .slice (some ⟨sb, 0, none⟩) m m)] = some (cliCells c (.slice A n cp) cb (.pointer none) (.slice (some ⟨sb, 0, none⟩) m m) 0 false (.slice none 0 0)) := by kernel_rfl
/-- the blocks of a cache -/
def cchBlk (K : OKind) (i : K.ι) (cb mb : Nat) (c : CfgA) (hv : Value) (D : Int → Option Blk) (k : Nat) : Prop := K.F i k ∨ k = cb ∨ k = mb ∨ (∃ b l v, D b = some (l, v) ∧ ownB v k) ∨ (0 < c.h.length ∧ ownB hv k)
theorem CchB.far' {K : OKind} {i : K.ι} {w w' : World} {cb mb : Nat} {c : CfgA} {hv : Value} {tier : Nat} {s : K.σ} {D : Int → Option Blk} {S : Nat → Prop} (h : CchB K i w cb mb c hv tier s D) (ho : Only S w w') (hS : ∀ k, cchBlk K i cb mb c hv D k → ¬ S k) : CchB K i w' cb mb c hv tier s D :=
  { box := ho.box h.box (hS _ (.inr (.inl rfl))), ord := (K.oc i).only h.ord ho fun k hk => hS k (.inl hk), map := h.map.only ho (hS _ (.inr (.inr (.inl rfl)))), keys := h.keys, ncb := h.ncb, nmb := h.nmb, right := h.right, t1 := h.t1, t3 := h.t3
    dat := fun b l v hb => by
      obtain ⟨h1, h2, g, ca, rfl, h3, h4⟩ := h.dat b l v hb
      exact ⟨h1, h2.only ho fun k hk => hS k (.inr (.inr (.inr (.inl ⟨b, l, _, hb, hk⟩)))), g, ca, rfl, Nat.lt_of_lt_of_le h3 ho.size, h4⟩
    hin := by
      obtain ⟨A, n, cp, h1, h2, h3⟩ := h.hin
      exact ⟨A, n, cp, h1, h2.far ho fun h0 k hk => hS k (.inr (.inr (.inr (.inr ⟨h0, h1 ▸ hk⟩)))), h3⟩ }
theorem HintsAt.lt {w : World} {A : Option Addr} {n c : Nat} {l : List HintA} (h : HintsAt w A n c l) (h0 : 0 < l.length) {k : Nat} (hk : ownB (.slice A n c) k) : k < w.heap.size := by
  obtain ⟨g, o, e, hg, _⟩ := h.at_ 0 h0
  subst e
  rw [← ownB_slice.1 hk]
  exact hg
theorem CchB.blkLt {K : OKind} {i : K.ι} {w : World} {cb mb : Nat} {c : CfgA} {hv : Value} {tier : Nat} {s : K.σ} {D : Int → Option Blk} (h : CchB K i w cb mb c hv tier s D) {k : Nat} (hk : cchBlk K i cb mb c hv D k) : k < w.heap.size := by
  rcases hk with hk | rfl | rfl | ⟨b, l, v, hb, hk⟩ | ⟨h0, hk⟩
  · exact (K.oc i).lt h.ord k hk
  · exact h.box.lt
  · exact h.map.lt
  · obtain ⟨_, _, g, ca, rfl, h3, _⟩ := h.dat b l v hb
    rw [← ownB_slice.1 hk]
    exact h3
  · obtain ⟨A, n, cp, h1, h2, _⟩ := h.hin
    exact h2.lt h0 (h1 ▸ hk)
theorem cli_setU (c : CfgA) (hv : Value) (cb : Nat) (u v : Value) (sl : Value) (ops : Int) (up : Bool) (en : Value) : (cliCells c hv cb u sl ops up en).setIfInBounds 18 v = cliCells c hv cb v sl ops up en := by
  unfold cliCells cfgCells
  rfl
def CNPost (K : OKind) (c : CfgA) (n : Nat) (w : World) (e : Ending) (w' : World) : Prop :=
  ∃ i l cb mb u g eb sb hv hvc, e = .returned (.tuple #[.pointer (some ⟨l, 0, none⟩), .int .i64 0]) ∧ Box w' l 65 (cliCells c hvc cb (.pointer (some ⟨u, 0, none⟩)) (.slice (some ⟨sb, 0, none⟩) n n) 0 false (.slice none 0 0)) ∧
    Box w' sb 74 (slC n fun _ => zSl) ∧ CchB K i w' cb mb c hv 1 K.s0 (fun _ => none) ∧ Box w' u 153 (uniC g (capT (c.f 9) (c.f 10) (c.f 11) 3) (fun _ => 0) (fun _ => 0)) ∧ SpB w' g eb 1 (fun _ => []) ∧
    (∃ A k cp, hvc = .slice A k cp ∧ HintsAt w' A k cp c.h) ∧ (∀ k, K.F i k → w.heap.size ≤ k ∧ k < sb) ∧ w.heap.size ≤ cb ∧ cb < sb ∧ w.heap.size ≤ mb ∧ mb < sb ∧ sb < l ∧ l < u ∧ l < g ∧ l < eb ∧ Only Non w w'
section
set_option maxHeartbeats 4000000
set_option maxRecDepth 100000
theorem cli_new {KO : OKind} {c : CfgA} (hK : KO.Made c 1) (hP : CfgP c) {A : Option Addr} {n0 cp : Nat} (w : World) (hin : HintsAt w A n0 cp c.h) :
    Calls Tryz.prog 35 #[.agg (cfgCells c (.slice A n0 cp))] w (CNPost KO c (c.f 1).toNat w) := by
  obtain ⟨n, hn⟩ := Int.eq_ofNat_of_zero_le (show 0 ≤ c.f 1 by have := hP.p1; omega)
  have hn4 : n ≤ 4 := by have := hP.p1; omega
  have HMK := Lib.hid (run_make5 n hn4)
  rw [hn, Int.toNat_natCast]
  have HNN := Lib.hid hn
  have hlen : c.h.length ≤ 100 := by have := hP.hs.2.2; omega
  have HL := Lib.hid hlen
  have HI := Lib.hid hin
  have HU := fun w => uni_new (c.f 9) (c.f 10) (c.f 11) (hP.pc 0 (by decide)) (hP.pc 1 (by decide)) (hP.pc 2 (by decide)) w
  have HU := Lib.hid HU
  have HNW := fun w hin => Lib.hid (cch_new (A := A) (n := n0) (cp := cp) hK hP (Nat.le_refl 1) (by decide : 1 ≤ 3) w hin)
  have HNW := Lib.hid HNW
  clear hP hlen hin hn hn4
  go_enter Tryz.func35, Tryz.ntmps35
  go_upto_region 1 with fail
  have HB1 := Lib.hid (Box.fresh w 42 (cfgCells c (.slice A n0 cp)))
  have HO1 := Lib.hid ((Only.refl Non w).alloc (.cells (cfgCells c (.slice A n0 cp)) 42))
  have HI1 := Lib.hid (HI.out.keep HO1.out)
  generalize w.alloc (.cells (cfgCells c (.slice A n0 cp)) 42) = W1 at *
  obtain ⟨bb, hbb⟩ : ∃ bb, bb = w.heap.size := ⟨_, rfl⟩
  have HBB := Lib.hid (show w.heap.size ≤ bb from Nat.le_of_eq hbb.symm)
  rw [← hbb] at HB1 ⊢
  clear hbb HI
  have HR := HNW.out W1 HI1.out
  go_upto_region 4 with (first | (refine wpList_load_row rfl 42 _ rfl bb rfl 42 (cfgCells c (.slice A n0 cp)) (0, 0) _ HB1.out Tryz.underlying42 rfl (by kernel_rfl) ?_) | (go_at_call 48; refine HR.out.mono ?_; rintro e W2 ⟨i, cb, mb, hvc, rfl, hc2, hF2, hcb2, hmb2, hhv2, ho2⟩))
  have HB2 := Lib.hid (ho2.box HB1.out id)
  have HI2 := Lib.hid (HI1.out.keep ho2)
  have HO2 := Lib.hid (HO1.out.trans ho2)
  have HC2 := Lib.hid hc2
  have HP2 := Lib.hid (show (∀ k, KO.F i k → w.heap.size ≤ k ∧ k < W2.heap.size) ∧ w.heap.size ≤ cb ∧ cb < W2.heap.size ∧ w.heap.size ≤ mb ∧ mb < W2.heap.size ∧ (∀ k, cchBlk KO i cb mb c hvc (fun _ => none) k → k ≠ bb) ∧ (∀ k, cchBlk KO i cb mb c hvc (fun _ => none) k → k < W2.heap.size) from by
    have hsz := HO1.out.size
    have hbl := HB1.out.lt
    have h1 := hc2.box.lt
    have h2 := hc2.map.lt
    have h3 := (KO.oc i).lt hc2.ord
    refine ⟨fun k hk => ⟨Nat.le_trans hsz (hF2 k hk), h3 k hk⟩, by omega, h1, by omega, h2, fun k hk => ?_, fun k hk => hc2.blkLt hk⟩
    rcases hk with hk | hk | hk | ⟨_, _, _, hk, _⟩ | hk
    · have := hF2 k hk; omega
    · omega
    · omega
    · cases hk
    · have := hhv2 hk.1 k hk.2; omega)
  clear ho2 HB1 HI1 HO1 HR hc2 hF2 hcb2 hmb2 hhv2
  have hb16 : W2.cell? ⟨bb, 16, none⟩ = some (.slice A n0 cp) := HB2.out.cellAt (cfgCells_hs c _)
  have HCL := Lib.hid (hclone_any W2 HI2.out HL.out)
  go_upto_region 5 with (go_at_call 49; refine HCL.out.mono ?_; rintro e W3 ⟨B, cp2, rfl, hh3, ho3, hown3⟩; have HB3 := Lib.hid (ho3.box HB2.out id); have hb16' : W3.cell? ⟨bb, 16, none⟩ = some (.slice A n0 cp) := ho3.cell hb16 id; have hf16 := HB3.out.free 16)
  have hj4 : Only (Just bb) W3 (W3.setCell ⟨bb, 16, none⟩ (.slice B c.h.length cp2)) := (Only.refl (Just bb) W3).setCell (p := ⟨bb, 16, none⟩) (.inl (show Just bb bb from rfl)) _
  have hO4 : Only Non w (W3.setCell ⟨bb, 16, none⟩ (.slice B c.h.length cp2)) := (HO2.out.trans ho3).setCell (p := ⟨bb, 16, none⟩) (.inr HBB.out) _
  have hB4 : Box (W3.setCell ⟨bb, 16, none⟩ (.slice B c.h.length cp2)) bb 42 (cfgCells c (.slice B c.h.length cp2)) := HB3.out.store 16 (.slice B c.h.length cp2)
  have hH4 : HintsAt (W3.setCell ⟨bb, 16, none⟩ (.slice B c.h.length cp2)) B c.h.length cp2 c.h := hh3.far (S := Just bb) hj4 fun _ k hk e => by
    have h1 := hown3 k hk
    have h2 := HB2.out.lt
    have h3 : k = bb := e
    omega
  have hC4 : CchB KO i (W3.setCell ⟨bb, 16, none⟩ (.slice B c.h.length cp2)) cb mb c hvc 1 KO.s0 (fun _ => none) := (HC2.out.keep ho3).far' hj4 (fun k hk => HP2.out.2.2.2.2.2.1 k hk)
  have HO4 := Lib.hid hO4
  have HB4 := Lib.hid hB4
  have HH4 := Lib.hid hH4
  have HC4 := Lib.hid hC4
  have HSZ := Lib.hid (show W2.heap.size ≤ (W3.setCell ⟨bb, 16, none⟩ (.slice B c.h.length cp2)).heap.size from Nat.le_trans ho3.size hj4.size)
  change Code.wp _ _ _ _ (W3.setCell ⟨bb, 16, none⟩ (.slice B c.h.length cp2))
  clear hO4 hB4 hH4 hh3 ho3 hown3 HB3 hb16' hf16 HB2 HI2 HO2 hb16 HCL hC4 hj4 HC2
  generalize W3.setCell ⟨bb, 16, none⟩ (.slice B c.h.length cp2) = W4 at *
  refine wp_region_tail (S := (fun w' : World => Box w' bb 42 (cfgCells c (.slice B c.h.length cp2)) ∧ Only Non W4 w')) 5 (by kernel_rfl) (by kernel_rfl) ?_ ?_
  · first | exact ⟨HB4.out, (Only.refl Non W4).drew⟩ | exact ⟨hSS.1.alloc _, hSS.2.alloc _⟩
  intro hSS
  refine wpHd_take (i := 0) (v := .agg (cfgCells c (.slice B c.h.length cp2))) (by kernel_rfl) rfl (by kernel_rfl) (fun _ _ _ h => h) (yieldsIf_load_mid (by rfl) 42 _ rfl bb 0 rfl (cfgCells c (.slice B c.h.length cp2)).toList _ (fun w hw j v hj => by rw [Nat.zero_add]; exact hw.1.cellAt (by rw [← Array.getElem?_toList]; exact hj)) Tryz.underlying42 rfl (by kernel_rfl)) (by assumption) ?_
  try simp only [Act.put, List.getElem_toArray, List.getElem_cons_succ, List.getElem_cons_zero, List.setIfInBounds_toArray, List.set_cons_zero, List.set_cons_succ]
  refine wpHd_take (i := 1) (v := ?_) (by kernel_rfl) rfl (by kernel_rfl) (fun _ _ _ h => h) (Or.inl ⟨by rfl, ?_⟩) (by assumption) ?_
  rotate_left
  · intro w hSw; (try dsimp only at hSw); go_simp; (try with_reducible rfl)
  try simp only [Act.put, List.getElem_toArray, List.getElem_cons_succ, List.getElem_cons_zero, List.setIfInBounds_toArray, List.set_cons_zero, List.set_cons_succ]
  refine wpHd_take (i := 2) (v := ?_) (by kernel_rfl) rfl (by kernel_rfl) (fun _ _ _ h => h) (Or.inl ⟨by rfl, ?_⟩) (by assumption) ?_
  rotate_left
  · intro w hSw; (try dsimp only at hSw); go_simp; (try with_reducible rfl)
  try simp only [Act.put, List.getElem_toArray, List.getElem_cons_succ, List.getElem_cons_zero, List.setIfInBounds_toArray, List.set_cons_zero, List.set_cons_succ]
  refine wpHd_take (i := 3) (v := .int .i64 n) (by kernel_rfl) rfl (by kernel_rfl) (fun _ _ _ h => h) (Or.inl ⟨by rfl, fun w hSw => ?_⟩) (by assumption) ?_
  · have x1 : w.cell? ⟨bb, 1, none⟩ = some (.int .i64 n) := (hSw.1.cellAt (cfgCells_at c _ (i := 1) (by decide))).trans (by rw [HNN.out])
    clear hSw
    go_simp
  try simp only [Act.put, List.getElem_toArray, List.getElem_cons_succ, List.getElem_cons_zero, List.setIfInBounds_toArray, List.set_cons_zero, List.set_cons_succ]
  refine wpHd_one (i := 4) rfl (by kernel_rfl) (fun K hK => ?_)
  go_simp
  rw [HMK.out]
  simp only [Result.andThen]
  refine hK.out _ _ ?_ (fun hSS => ?_)
  · first | exact ⟨HB4.out, (Only.refl Non W4).drew⟩ | exact ⟨hSS.1.alloc _, hSS.2.alloc _⟩
  clear hK
  try simp only [Act.put, List.getElem_toArray, List.getElem_cons_succ, List.getElem_cons_zero, List.setIfInBounds_toArray, List.set_cons_zero, List.set_cons_succ]
  refine wpHd_end (by kernel_rfl) ?_
  obtain ⟨sb, hsb⟩ : ∃ sb, sb = W4.drew.heap.size := ⟨_, rfl⟩
  have HB5 := Lib.hid hSS.1
  have ho5 := hSS.2
  have HS5 := Lib.hid (show Box (W4.drew.alloc (.cells (slC n fun _ => zSl) 74)) sb 74 (slC n fun _ => zSl) from hsb ▸ Box.fresh W4.drew 74 (slC n fun _ => zSl))
  have HC5 := Lib.hid (HC4.out.keep ho5)
  have HH5 := Lib.hid (HH4.out.keep ho5)
  have HO5 := Lib.hid (HO4.out.trans ho5)
  have HSB := Lib.hid (show W4.heap.size = sb ∧ (W4.drew.alloc (.cells (slC n fun _ => zSl) 74)).heap.size = sb + 1 from ⟨hsb.symm, by rw [World.size_alloc, ← hsb]⟩)
  try rw [show W4.heap.size = sb from hsb.symm]
  try rw [← hsb]
  clear hSS ho5 hsb
  generalize (W4.drew.alloc (.cells (slC n fun _ => zSl) 74)) = W5 at *
  refine wpList_build' rfl _ _ rfl [(0, .agg (cfgCells c (.slice B c.h.length cp2))), (1, .pointer (some ⟨cb, 0, none⟩)), (3, .slice (some ⟨sb, 0, none⟩) n n)] _ ?_ (built_cli c B c.h.length cp2 cb sb n) ?_
  · simp [Act.eval]
  go_upto_region 6 with fail
  have hal6 : Only Non W5 (W5.alloc (.cells (cliCells c (.slice B c.h.length cp2) cb (.pointer none) (.slice (some ⟨sb, 0, none⟩) n n) 0 false (.slice none 0 0)) 65)) := (Only.refl _ _).alloc _
  have HB6 := Lib.hid (hal6.box HB5.out id)
  have HS6 := Lib.hid (hal6.box HS5.out id)
  have HC6 := Lib.hid (HC5.out.keep hal6)
  have HH6 := Lib.hid (HH5.out.keep hal6)
  have HO6 := Lib.hid (HO5.out.trans hal6)
  have HL6 := Lib.hid (Box.fresh W5 65 (cliCells c (.slice B c.h.length cp2) cb (.pointer none) (.slice (some ⟨sb, 0, none⟩) n n) 0 false (.slice none 0 0)))
  obtain ⟨l, hl⟩ : ∃ l, l = W5.heap.size := ⟨_, rfl⟩
  have HLE := Lib.hid (show W5.heap.size = l from hl.symm)
  rw [← hl] at HL6 ⊢
  clear hal6 hl HB5 HS5 HC5 HH5 HO5
  generalize W5.alloc (.cells (cliCells c (.slice B c.h.length cp2) cb (.pointer none) (.slice (some ⟨sb, 0, none⟩) n n) 0 false (.slice none 0 0)) 65) = W6 at *
  have x9 : W6.cell? ⟨bb, 9, none⟩ = some (.int .i64 (c.f 9)) := HB6.out.cellAt (cfgCells_at c _ (i := 9) (by decide))
  have x10 : W6.cell? ⟨bb, 10, none⟩ = some (.int .i64 (c.f 10)) := HB6.out.cellAt (cfgCells_at c _ (i := 10) (by decide))
  have x11 : W6.cell? ⟨bb, 11, none⟩ = some (.int .i64 (c.f 11)) := HB6.out.cellAt (cfgCells_at c _ (i := 11) (by decide))
  have HU6 := Lib.hid (HU.out W6)
  go_upto_region 7 with (go_at_call 50; refine HU6.out.mono ?_; rintro e W7 ⟨u, g, eb, rfl, hu7, hs7, hu, hg, he, hgu, heu, ho7⟩; have hx : W7.cell? ⟨l, 18, none⟩ = some (.pointer none) := (ho7.box HL6.out id).cellAt rfl; have hxf : W7.frozen? ⟨l, 18, none⟩ = false := (ho7.box HL6.out id).free _)
  go_wp2_with fail
  go_ret2
  have j8 : Only (Just l) W7 (W7.setCell ⟨l, 18, none⟩ (.pointer (some ⟨u, 0, none⟩))) := (Only.refl (Just l) W7).setCell (p := ⟨l, 18, none⟩) (.inl (show Just l l from rfl)) _
  have hl8 := (ho7.box HL6.out id).store 18 (.pointer (some ⟨u, 0, none⟩))
  rw [cli_setU] at hl8
  have e1 := HSB.out
  have e2 := HLE.out
  have e3 := HL6.out.lt
  have e4 := HSZ.out
  have e5 := HP2.out
  have hW := (HO6.out.trans ho7).trans' j8 fun k hk => .inr (show w.heap.size ≤ k from by
    have h1 : k = l := hk
    have h2 := HO4.out.size
    omega)
  have hnl : ∀ k, cchBlk KO i cb mb c hvc (fun _ => none) k → k < sb := fun k hk => by have := e5.2.2.2.2.2.2 k hk; omega
  refine ⟨i, l, cb, mb, u, g, eb, sb, hvc, .slice B c.h.length cp2, rfl, hl8, j8.box (ho7.box HS6.out id) (show ¬ sb = l by omega), (HC6.out.keep ho7).far' j8 (fun k hk e => by have h1 : k = l := e; have := hnl k hk; omega), j8.box hu7 (show ¬ u = l by omega), hs7.only j8 (show ¬ g = l by omega) (show ¬ eb = l by omega), ⟨B, c.h.length, cp2, rfl, (HH6.out.keep ho7).far j8 (fun h0 k hk e => ?_)⟩, fun k hk => ⟨(e5.1 k hk).1, hnl k (.inl hk)⟩, e5.2.1, hnl cb (.inr (.inl rfl)), e5.2.2.2.1, hnl mb (.inr (.inr (.inl rfl))), by omega, by omega, by omega, by omega, hW⟩
  have h1 : k = l := e
  have h2 := HH4.out.lt h0 hk
  omega
end
end Go.Proofs.YtcphifphidcbaaaGreat
