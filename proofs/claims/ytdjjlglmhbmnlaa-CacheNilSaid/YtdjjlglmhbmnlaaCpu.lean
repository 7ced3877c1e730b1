/- cache.Cache.Put. -/
import Derived.Test.YtdjjlglmhbmnlaaCnw
namespace Go.Proofs.Ytdjjlglmhbmnlaa
open Go.RowKit Go.ChangeShapes Go.WideShapes
set_option linter.unusedVariables false
set_option linter.unusedSimpArgs false
def putD (D : Int → Option Blk) (g : Bool) (v b : Int) (p : Blk) : Int → Option Blk := updI (if g = true then updI D v none else D) b (some p)
def victD (D : Int → Option Blk) (g : Bool) (v : Int) : Value := if g = true then ((D v).map Prod.snd).getD (.slice none 0 0) else .slice none 0 0
theorem vOf_set (D : Int → Option Blk) (b : Int) (p : Blk) : fSet (vOf D) b p.2 = vOf (updI D b (some p)) := by
  funext x
  unfold fSet vOf updI
  split <;> rfl
theorem vOf_del (D : Int → Option Blk) (b : Int) : fDel (vOf D) b = vOf (updI D b none) := by
  funext x
  unfold fDel vOf updI
  split <;> rfl
/-- a call may write the order and the map -/
def CF2 (F : Nat → Prop) (mb : Nat) : Nat → Prop := fun k => F k ∨ k = mb
def PutPost (K : OKind) (i : K.ι) (cb mb : Nat) (c : CfgA) (hv : Value) (tier : Nat) (s : K.σ) (D : Int → Option Blk) (b : Int) (dl : List Int) (w : World) (e : Ending) (w' : World) : Prop :=
  ∃ vv, e = .returned (.tuple #[.agg #[.int .i64 (K.sp.add s b).2.1, victD D (K.sp.add s b).2.2 (K.sp.add s b).2.1], .bool (K.sp.add s b).2.2, .int .i64 0]) ∧
    CchB K i w' cb mb c hv tier (K.sp.add s b).1 (putD D (K.sp.add s b).2.2 (K.sp.add s b).2.1 b (dl, vv)) ∧ (∀ k, ownB vv k → w.heap.size ≤ k) ∧ Only (CF2 (K.F i) mb) w w'
theorem results_ctt {P : Program} {fn : Func} {p u v : Tmp} {ty : TypeId} (h : fn.results = #[.cell p ty, .tmp u, .tmp v]) (tmps : Array Value) (w : World) (g : Nat) (t : TypeId) (cs : Array Value) (fr : Nat × Nat) (d : TypeDesc)
    (hp : tmps.getD p undef = .pointer (some ⟨g, 0, none⟩)) (hg : w.heap[g]? = some (.cells cs t fr))
    (hu : P.underlying ty = some d) (hd : (match d with | .struct _ | .array _ _ => true | _ => false) = true) (hi : (P.info? ty).map (·.size) = some cs.size) :
    (results fn tmps).run P w = .ok (.tuple #[.agg cs, tmps.getD u undef, tmps.getD v undef]) w := by
  have hp' : tmps[p]?.getD undef = .pointer (some ⟨g, 0, none⟩) := by simpa using hp
  simp [results, h, hp', asAddr, run_loadVar_row w g t ty cs fr d hg hu hd hi]
theorem byt_lt {w : World} {v : Value} {l : List Int} (h : Byt w v l) (hl : 0 < l.length) : ∀ k, ownB v k → k < w.heap.size := by
  intro k hk
  obtain ⟨A, c, rfl, _, _, h3⟩ := h
  obtain ⟨g, o, rfl, hc⟩ := h3.at_ (i := 0) (by rw [List.length_map]; exact hl) undef
  rw [← ownB_slice.1 hk]
  exact World.block_lt_of_cell? w _ hc
theorem DatB.far {w w' : World} {cb mb : Nat} {F : Nat → Prop} {size : Int} {l : List Int} {v : Value} (h : DatB w cb mb F size l v) (ho : Only (CF2 F mb) w w') : DatB w' cb mb F size l v := by
  obtain ⟨h1, h2, g, ca, rfl, h3, h4, h5, h6⟩ := h
  exact ⟨h1, h2.only ho fun k hk e => by rw [← ownB_slice.1 hk] at e; exact e.elim h6 h5, g, ca, rfl, Nat.lt_of_lt_of_le h3 ho.size, h4, h5, h6⟩
theorem lawB : Try.prog.underlying 33 = some (.map 3 34) := Try.underlying33
def FrmRel (W4 : World) (mb rb : Nat) (D : Int → Option Blk) (g : Bool) (v : Int) (wx : World) : Prop :=
  Box wx rb 36 #[.int .i64 v, victD D g v] ∧ MapI wx mb (vOf (if g = true then updI D v none else D)) ∧ Only (fun k => k = mb ∨ k = rb) W4 wx
section
set_option maxHeartbeats 4000000
set_option maxRecDepth 100000
theorem cch_put {KO : OKind} {i : KO.ι} {w : World} {cb mb : Nat} {c : CfgA} {hv : Value} {tier : Nat} {s : KO.σ} {D : Int → Option Blk} (h : CchB KO i w cb mb c hv tier s D)
    {b : Int} {dl : List Int} {dv : Value} (hby : Byt w dv dl) (hdv : ∀ k, ownB dv k → ¬ KO.F i k ∧ k ≠ mb) (h0 : 0 ≤ b) (h1 : b < c.f 2) (hl : (dl.length : Int) = c.f 3) (level : Int)
    (HT : ∀ w', CchB KO i w' cb mb c hv tier s D → Calls Try.prog 18 #[.pointer (some ⟨cb, 0, none⟩), .int .i64 b, .int .i64 level] w' fun e w'' => e = .returned (.bool true) ∧ Only Non w' w'')
    (ht : KO.sp.takes b) (hage : KO.sp.age s < maxAge) :
    Calls Try.prog 11 #[.pointer (some ⟨cb, 0, none⟩), .agg #[.int .i64 b, dv], .int .i64 level] w (PutPost KO i cb mb c hv tier s D b dl w) := by
  obtain ⟨dA, dc, rfl, hdc, hdm, hsrc⟩ := id hby
  have hb64 : b < 64 := by have := h.right.p2; omega
  have HADD := Lib.hid fun W (hR : KO.R i s W) => (KO.oc i).add hR h0 hb64 ht hage
  have HLAW := Lib.hid ((KO.oc i).addL h.ord h0 hb64 ht)
  have HRG := Lib.hid fun (v : Int) (hv : v ∈ KO.sp.all s) => (KO.oc i).rng h.ord hv
  have HTH := fun W (hC : CchB KO i W cb mb c hv tier s D) => cch_there b hC
  rw [show (decide (0 ≤ b) && decide (b < c.f 2)) = true by simp [h0, h1]] at HTH
  have HTH := Lib.hid HTH
  have HTK := Lib.hid HT
  have H := Lib.hid h
  have HBY := Lib.hid hby
  have HDV := Lib.hid hdv
  have HDL := Lib.hid (show 0 < dl.length by have := h.right.p3; omega)
  have HDW := Lib.hid (byt_lt hby HDL.out)
  clear hdv
  have HL := Lib.hid hl
  have HB0 := Lib.hid (show 0 ≤ b ∧ b < 64 from ⟨h0, hb64⟩)
  clear HT ht hage h hby hl hsrc h0 h1 hb64 hdc hdm
  go_enter Try.func11, Try.ntmps11
  go_upto_region 1 with fail
  have hb1 := Box.fresh w 36 #[.int .i64 b, .slice dA dl.length dc]
  have hb2 := Box.fresh (w.alloc (.cells #[.int .i64 b, .slice dA dl.length dc] 36)) 36 #[.int .i64 0, .slice none 0 0]
  rw [World.size_alloc] at hb2
  have hb1 := hb1.alloc (.cells #[.int .i64 0, .slice none 0 0] 36)
  have ho1 := ((Only.refl Non w).alloc (.cells #[.int .i64 b, .slice dA dl.length dc] 36)).alloc (.cells #[.int .i64 0, .slice none 0 0] 36)
  have HO1 := Lib.hid ho1
  have H1 := Lib.hid (H.out.keep ho1)
  have HBY1 := Lib.hid (HBY.out.only ho1 fun _ _ => id)
  have hltF := (KO.oc i).lt H.out.ord
  have hcb := H.out.box.lt
  have hmb := H.out.map.lt
  have hnf : ¬ KO.F i w.heap.size := fun e => by have := hltF _ e; omega
  have hnv : ¬ KO.F i (w.heap.size + 1) := fun e => by have := hltF _ e; omega
  have hd1 : w.heap.size ≠ cb ∧ w.heap.size ≠ mb ∧ w.heap.size + 1 ≠ cb ∧ w.heap.size + 1 ≠ mb ∧ w.heap.size ≠ w.heap.size + 1 ∧ w.heap.size ≤ w.heap.size + 1 := ⟨by omega, by omega, by omega, by omega, by omega, by omega⟩
  have HNC := Lib.hid H.out.ncb
  have HNM := Lib.hid H.out.nmb
  change Code.wp _ _ _ _ ((w.alloc (.cells #[.int .i64 b, .slice dA dl.length dc] 36)).alloc (.cells #[.int .i64 0, .slice none 0 0] 36))
  clear ho1 hltF hcb hmb HBY
  generalize (w.alloc (.cells #[.int .i64 b, .slice dA dl.length dc] 36)).alloc (.cells #[.int .i64 0, .slice none 0 0] 36) = W1 at *
  obtain ⟨fb, hfb⟩ : ∃ fb, fb = w.heap.size := ⟨_, rfl⟩
  obtain ⟨rb, hrb⟩ : ∃ rb, rb = w.heap.size + 1 := ⟨_, rfl⟩
  have HSZ := Lib.hid (show w.heap.size ≤ fb ∧ w.heap.size ≤ rb from ⟨by omega, by omega⟩)
  rw [← hrb] at hb2 hnv hd1
  rw [← hfb] at hb1 hnf hd1
  rw [← hrb, ← hfb]
  clear hfb hrb
  have HF1 := Lib.hid hb1
  have HV1 := Lib.hid hb2
  have HNF := Lib.hid hnf
  have HNV := Lib.hid hnv
  have HD := Lib.hid hd1
  clear hb1 hb2 hnf hnv hd1
  have f0 : W1.cell? ⟨fb, 0, none⟩ = some (.int .i64 b) := HF1.out.cellAt rfl
  have f1 : W1.cell? ⟨fb, 1, none⟩ = some (.slice dA dl.length dc) := HF1.out.cellAt rfl
  have s3 : W1.cell? ⟨cb, 3, none⟩ = some (.int .i64 dl.length) := by rw [HL.out]; exact H1.out.box.cellAt (cch_f _ _ _ _ _ _ (by decide))
  go_upto_region 5 with (go_at_call 25; refine (HTH.out W1 H1.out).mono ?_; rintro e W ⟨rfl, rfl⟩)
  refine wp_region_tail (S := (fun w' : World => w' = W1.drew)) 9 (by kernel_rfl) (by kernel_rfl) ?_ ?_
  · rfl
  intro hSS
  refine wpHd_take (i := 0) (v := ?_) (by kernel_rfl) rfl (by kernel_rfl) (fun _ _ _ h => h) (Or.inl ⟨by rfl, ?_⟩) (by assumption) ?_
  rotate_left
  · intro w hSw; (try dsimp only at hSw); go_simp; (try with_reducible rfl)
  try simp only [Act.put, List.getElem_toArray, List.getElem_cons_succ, List.getElem_cons_zero, List.setIfInBounds_toArray, List.set_cons_zero, List.set_cons_succ]
  refine wpHd_take (i := 1) (v := ?_) (by kernel_rfl) rfl (by kernel_rfl) (fun _ _ _ h => h) (Or.inl ⟨by rfl, ?_⟩) (by assumption) ?_
  rotate_left
  · intro w hSw; (try dsimp only at hSw); go_simp; (try with_reducible rfl)
  try simp only [Act.put, List.getElem_toArray, List.getElem_cons_succ, List.getElem_cons_zero, List.setIfInBounds_toArray, List.set_cons_zero, List.set_cons_succ]
  refine wpHd_take (i := 2) (v := ?_) (by kernel_rfl) rfl (by kernel_rfl) (fun _ _ _ h => h) (Or.inl ⟨by rfl, ?_⟩) (by assumption) ?_
  rotate_left
  · intro w hSw; (try dsimp only at hSw); go_simp; (try with_reducible rfl)
  try simp only [Act.put, List.getElem_toArray, List.getElem_cons_succ, List.getElem_cons_zero, List.setIfInBounds_toArray, List.set_cons_zero, List.set_cons_succ]
  refine wpHd_take (i := 3) (v := ?_) (by kernel_rfl) rfl (by kernel_rfl) (fun _ _ _ h => h) (Or.inl ⟨by rfl, ?_⟩) (by assumption) ?_
  rotate_left
  · intro w hSw; (try dsimp only at hSw); go_simp; (try with_reducible rfl)
  try simp only [Act.put, List.getElem_toArray, List.getElem_cons_succ, List.getElem_cons_zero, List.setIfInBounds_toArray, List.set_cons_zero, List.set_cons_succ]
  refine wpHd_take (i := 4) (v := ?_) (by kernel_rfl) rfl (by kernel_rfl) (fun _ _ _ h => h) (Or.inl ⟨by rfl, ?_⟩) (by assumption) ?_
  rotate_left
  · intro w hSw; (try dsimp only at hSw); go_simp; (try with_reducible rfl)
  try simp only [Act.put, List.getElem_toArray, List.getElem_cons_succ, List.getElem_cons_zero, List.setIfInBounds_toArray, List.set_cons_zero, List.set_cons_succ]
  refine wpHd_take (i := 5) (v := ?_) (by kernel_rfl) rfl (by kernel_rfl) (fun _ _ _ h => h) (Or.inl ⟨by rfl, ?_⟩) (by assumption) ?_
  rotate_left
  · intro w hSw; (try dsimp only at hSw); go_simp; (try with_reducible rfl)
  try simp only [Act.put, List.getElem_toArray, List.getElem_cons_succ, List.getElem_cons_zero, List.setIfInBounds_toArray, List.set_cons_zero, List.set_cons_succ]
  refine wpHd_take (i := 6) (v := ?_) (by kernel_rfl) rfl (by kernel_rfl) (fun _ _ _ h => h) (Or.inl ⟨by rfl, ?_⟩) (by assumption) ?_
  rotate_left
  · intro w hSw; (try dsimp only at hSw); go_simp; (try with_reducible rfl)
  try simp only [Act.put, List.getElem_toArray, List.getElem_cons_succ, List.getElem_cons_zero, List.setIfInBounds_toArray, List.set_cons_zero, List.set_cons_succ]
  refine wpHd_take (i := 7) (v := ?_) (by kernel_rfl) rfl (by kernel_rfl) (fun _ _ _ h => h) (Or.inl ⟨by rfl, ?_⟩) (by assumption) ?_
  rotate_left
  · intro w hSw; (try dsimp only at hSw); go_simp; (try with_reducible rfl)
  try simp only [Act.put, List.getElem_toArray, List.getElem_cons_succ, List.getElem_cons_zero, List.setIfInBounds_toArray, List.set_cons_zero, List.set_cons_succ]
  refine wpHd_take (i := 8) (v := ?_) (by kernel_rfl) rfl (by kernel_rfl) (fun _ _ _ h => h) (Or.inl ⟨by rfl, ?_⟩) (by assumption) ?_
  rotate_left
  · intro w hSw; (try dsimp only at hSw); go_simp; (try with_reducible rfl)
  try simp only [Act.put, List.getElem_toArray, List.getElem_cons_succ, List.getElem_cons_zero, List.setIfInBounds_toArray, List.set_cons_zero, List.set_cons_succ]
  refine wpHd_end (by kernel_rfl) ?_
  clear hSS HTH
  go_upto_region 7 with fail
  have H2 := Lib.hid (show CchB KO i W1.drew cb mb c hv tier s D from H1.out.keep ((Only.refl Non W1).drew))
  have HF2 := Lib.hid (show Box W1.drew fb 36 #[.int .i64 b, .slice dA dl.length dc] from HF1.out)
  have HV2 := Lib.hid (show Box W1.drew rb 36 #[.int .i64 0, .slice none 0 0] from HV1.out)
  have HBY2 := Lib.hid (show Byt W1.drew (.slice dA dl.length dc) dl from HBY1.out)
  have HO2 := Lib.hid HO1.out.drew
  clear f0 f1 s3 H1 HF1 HV1 HBY1 HO1
  generalize W1.drew = W2 at *
  have f0 : W2.cell? ⟨fb, 0, none⟩ = some (.int .i64 b) := HF2.out.cellAt rfl
  go_upto_region 9 with (go_at_call 18; refine (HTK.out W2 H2.out).mono ?_; rintro e W3 ⟨rfl, ho3⟩)
  have H3 := Lib.hid (H2.out.keep ho3)
  have HF3 := Lib.hid (ho3.box HF2.out id)
  have HV3 := Lib.hid (ho3.box HV2.out id)
  have HBY3 := Lib.hid (HBY2.out.only ho3 fun _ _ => id)
  have HO3 := Lib.hid (HO2.out.trans ho3)
  clear ho3 f0 H2 HF2 HV2 HBY2 HO2 HTK
  have k1 : W3.drew.cell? ⟨cb, 18, none⟩ = some (.iface KO.t (KO.x i)) := H3.out.box.cellAt (cch_o _ _ _ _ _ _)
  have k2 : W3.drew.cell? ⟨fb, 0, none⟩ = some (.int .i64 b) := HF3.out.cellAt rfl
  have HR3 := Lib.hid (show KO.R i s W3.drew from (KO.oc i).only H3.out.ord ((Only.refl Non W3).drew) fun _ _ => id)
  have hm := (KO.oc i).dadd.m
  have he := (KO.oc i).dadd.e
  refine wp_region_tail (S := (fun w' : World => w'.cell? ⟨cb, 18, none⟩ = some (.iface KO.t (KO.x i)) ∧ w'.cell? ⟨fb, 0, none⟩ = some (.int .i64 b))) 13 (by kernel_rfl) (by kernel_rfl) ?_ ?_
  · exact ⟨by assumption, by assumption⟩
  intro hSS
  refine wpHd_take (i := 0) (v := ?_) (by kernel_rfl) rfl (by kernel_rfl) (fun _ _ _ h => h) (Or.inl ⟨by rfl, ?_⟩) (by assumption) ?_
  rotate_left
  · intro w hSw; (try dsimp only at hSw); go_simp; (try with_reducible rfl)
  try simp only [Act.put, List.getElem_toArray, List.getElem_cons_succ, List.getElem_cons_zero, List.setIfInBounds_toArray, List.set_cons_zero, List.set_cons_succ]
  refine wpHd_take (i := 1) (v := ?_) (by kernel_rfl) rfl (by kernel_rfl) (fun _ _ _ h => h) (Or.inl ⟨by rfl, ?_⟩) (by assumption) ?_
  rotate_left
  · intro w hSw; (try dsimp only at hSw); go_simp; (try with_reducible rfl)
  try simp only [Act.put, List.getElem_toArray, List.getElem_cons_succ, List.getElem_cons_zero, List.setIfInBounds_toArray, List.set_cons_zero, List.set_cons_succ]
  refine wpHd_take (i := 2) (v := ?_) (by kernel_rfl) rfl (by kernel_rfl) (fun _ _ _ h => h) (Or.inl ⟨by rfl, ?_⟩) (by assumption) ?_
  rotate_left
  · intro w hSw; (try dsimp only at hSw); go_simp; (try with_reducible rfl)
  try simp only [Act.put, List.getElem_toArray, List.getElem_cons_succ, List.getElem_cons_zero, List.setIfInBounds_toArray, List.set_cons_zero, List.set_cons_succ]
  refine wpHd_take (i := 3) (v := ?_) (by kernel_rfl) rfl (by kernel_rfl) (fun _ _ _ h => h) (Or.inl ⟨by rfl, ?_⟩) (by assumption) ?_
  rotate_left
  · intro w hSw; (try dsimp only at hSw); go_simp; (try with_reducible rfl)
  try simp only [Act.put, List.getElem_toArray, List.getElem_cons_succ, List.getElem_cons_zero, List.setIfInBounds_toArray, List.set_cons_zero, List.set_cons_succ]
  refine wpHd_take (i := 4) (v := ?_) (by kernel_rfl) rfl (by kernel_rfl) (fun _ _ _ h => h) (Or.inl ⟨by rfl, ?_⟩) (by assumption) ?_
  rotate_left
  · intro w hSw; (try dsimp only at hSw); go_simp; (try with_reducible rfl)
  try simp only [Act.put, List.getElem_toArray, List.getElem_cons_succ, List.getElem_cons_zero, List.setIfInBounds_toArray, List.set_cons_zero, List.set_cons_succ]
  refine wpHd_take (i := 5) (v := ?_) (by kernel_rfl) rfl (by kernel_rfl) (fun _ _ _ h => h) (Or.inl ⟨by rfl, ?_⟩) (by assumption) ?_
  rotate_left
  · intro w hSw; (try dsimp only at hSw); go_simp; (try with_reducible rfl)
  try simp only [Act.put, List.getElem_toArray, List.getElem_cons_succ, List.getElem_cons_zero, List.setIfInBounds_toArray, List.set_cons_zero, List.set_cons_succ]
  refine wpHd_one (i := 6) rfl (by kernel_rfl) (fun K hK => ?_)
  go_simp
  refine (HADD.out W3.drew HR3.out).mono ?_
  rintro e W4 ⟨rfl, hr4, ho4⟩
  have HR4 := Lib.hid hr4
  have HO4 := Lib.hid ho4
  have k1 := ho4.cell hSS.1 HNC.out
  have k2 := ho4.cell hSS.2 HNF.out
  clear hr4 ho4
  refine hK.out _ _ ?_ (fun hSS => ?_)
  · exact ⟨by assumption, by assumption⟩
  clear hK
  try simp only [Act.put, List.getElem_toArray, List.getElem_cons_succ, List.getElem_cons_zero, List.setIfInBounds_toArray, List.set_cons_zero, List.set_cons_succ]
  refine wpHd_take (i := 7) (v := ?_) (by kernel_rfl) rfl (by kernel_rfl) (fun _ _ _ h => h) (Or.inl ⟨by rfl, ?_⟩) (by assumption) ?_
  rotate_left
  · intro w hSw; (try dsimp only at hSw); go_simp; (try with_reducible rfl)
  try simp only [Act.put, List.getElem_toArray, List.getElem_cons_succ, List.getElem_cons_zero, List.setIfInBounds_toArray, List.set_cons_zero, List.set_cons_succ]
  refine wpHd_take (i := 8) (v := ?_) (by kernel_rfl) rfl (by kernel_rfl) (fun _ _ _ h => h) (Or.inl ⟨by rfl, ?_⟩) (by assumption) ?_
  rotate_left
  · intro w hSw; (try dsimp only at hSw); go_simp; (try with_reducible rfl)
  try simp only [Act.put, List.getElem_toArray, List.getElem_cons_succ, List.getElem_cons_zero, List.setIfInBounds_toArray, List.set_cons_zero, List.set_cons_succ]
  refine wpHd_take (i := 9) (v := ?_) (by kernel_rfl) rfl (by kernel_rfl) (fun _ _ _ h => h) (Or.inl ⟨by rfl, ?_⟩) (by assumption) ?_
  rotate_left
  · intro w hSw; (try dsimp only at hSw); go_simp; (try with_reducible rfl)
  try simp only [Act.put, List.getElem_toArray, List.getElem_cons_succ, List.getElem_cons_zero, List.setIfInBounds_toArray, List.set_cons_zero, List.set_cons_succ]
  refine wpHd_take (i := 10) (v := ?_) (by kernel_rfl) rfl (by kernel_rfl) (fun _ _ _ h => h) (Or.inl ⟨by rfl, ?_⟩) (by assumption) ?_
  rotate_left
  · intro w hSw; (try dsimp only at hSw); go_simp; (try with_reducible rfl)
  try simp only [Act.put, List.getElem_toArray, List.getElem_cons_succ, List.getElem_cons_zero, List.setIfInBounds_toArray, List.set_cons_zero, List.set_cons_succ]
  refine wpHd_take (i := 11) (v := ?_) (by kernel_rfl) rfl (by kernel_rfl) (fun _ _ _ h => h) (Or.inl ⟨by rfl, ?_⟩) (by assumption) ?_
  rotate_left
  · intro w hSw; (try dsimp only at hSw); go_simp; (try with_reducible rfl)
  try simp only [Act.put, List.getElem_toArray, List.getElem_cons_succ, List.getElem_cons_zero, List.setIfInBounds_toArray, List.set_cons_zero, List.set_cons_succ]
  refine wpHd_take (i := 12) (v := ?_) (by kernel_rfl) rfl (by kernel_rfl) (fun _ _ _ h => h) (Or.inl ⟨by rfl, ?_⟩) (by assumption) ?_
  rotate_left
  · intro w hSw; (try dsimp only at hSw); go_simp; (try with_reducible rfl)
  try simp only [Act.put, List.getElem_toArray, List.getElem_cons_succ, List.getElem_cons_zero, List.setIfInBounds_toArray, List.set_cons_zero, List.set_cons_succ]
  refine wpHd_end (by kernel_rfl) ?_
  clear hSS k1 k2 HR3 HADD hm he
  have HKEYS := Lib.hid H3.out.keys
  have HDAT := Lib.hid H3.out.dat
  have HCH := Lib.hid (show CchB KO i W3.drew cb mb c hv tier s D from H3.out.keep ((Only.refl Non W3).drew))
  have HB4 := Lib.hid (HO4.out.box HCH.out.box HNC.out)
  have HM4 := Lib.hid (HCH.out.map.only HO4.out HNM.out)
  have HF4 := Lib.hid (HO4.out.box (show Box W3.drew fb 36 #[.int .i64 b, .slice dA dl.length dc] from HF3.out) HNF.out)
  have HV4 := Lib.hid (HO4.out.box (show Box W3.drew rb 36 #[.int .i64 0, .slice none 0 0] from HV3.out) HNV.out)
  have HBY4 := Lib.hid ((show Byt W3.drew (.slice dA dl.length dc) dl from HBY3.out).only HO4.out fun k hk => (HDV.out k hk).1)
  have HO14 := Lib.hid ((HO3.out.drew.mono (S' := CF2 (KO.F i) mb) fun k h => h.elim).trans' HO4.out fun k hk => .inl (.inl hk))
  clear HF3 HV3 HBY3
  clear H3 HO3 HO4
  generalize hg1 : (KO.sp.add s b).1 = s' at *
  generalize hg2 : (KO.sp.add s b).2.1 = v at *
  generalize hg3 : (KO.sp.add s b).2.2 = g at *
  have HG1 := Lib.hid hg1
  have HG2 := Lib.hid hg2
  have HG3 := Lib.hid hg3
  clear hg1 hg2 hg3
  have m19 : W4.cell? ⟨cb, 19, none⟩ = some (.map (some mb)) := HB4.out.cellAt (cch_m _ _ _ _ _ _)
  go_upto_if 55 with fail
  go_cut [] (fun wx => FrmRel W4 mb rb D g v wx)
  case first =>
    cases g with
    | false =>
      have hv0 : v = 0 := HLAW.out.elim (fun h => h.2.1) fun h => (by cases h.1)
      have HV0 := Lib.hid hv0
      clear hv0
      go_wp2
      go_meet
      case rel => exact ⟨by rw [HV0.out]; exact HV4.out, HM4.out, Only.refl _ _⟩
    | true =>
      have hlaw : v ∈ KO.sp.all s := HLAW.out.elim (fun h => (by cases h.1)) fun h => h.2.1
      have hvr := HRG.out v hlaw
      obtain ⟨⟨l0, v0⟩, hDv⟩ := Option.isSome_iff_exists.1 ((HKEYS.out v).2 hlaw)
      obtain ⟨_, _, g0, ca0, e0, _⟩ := HDAT.out v l0 v0 hDv
      subst e0
      have hI : I64 v := ⟨by omega, by omega⟩
      have hvof : vOf D v = some (.slice (some ⟨g0, 0, none⟩) l0.length ca0) := by unfold vOf; rw [hDv]; rfl
      have hlk := run_look_i (P := Try.prog) HM4.out lawB Try.underlying3 (z := .slice none 0 0) (by kernel_rfl) hI
      rw [hvof] at hlk
      have hlk : (Instr.lookup 33 (.map (some mb)) (.int .i64 v) false).run Try.prog W4 = .ok (.slice (some ⟨g0, 0, none⟩) l0.length ca0) W4 := hlk
      have HI := Lib.hid hI
      have HVD := Lib.hid (show victD D true v = .slice (some ⟨g0, 0, none⟩) l0.length ca0 by unfold victD; rw [if_pos rfl, hDv]; rfl)
      clear hlaw hvr hDv hI hvof
      go_upto_region 14 with (refine wpList_store_row rfl 36 _ _ rfl rb #[.int .i64 v, .slice (some ⟨g0, 0, none⟩) l0.length ca0] rfl rfl 36 _ HV4.out (by kernel_rfl) rfl (by simp [Value.oneCell']) ?_)
      have ho5 : Only (fun k => k = mb ∨ k = rb) W4 (W4.setRow rb #[.int .i64 v, .slice (some ⟨g0, 0, none⟩) l0.length ca0]) := (Only.refl _ _).setRow' (.inl (.inr rfl)) _
      have hv5 := HV4.out.setRow' #[.int .i64 v, .slice (some ⟨g0, 0, none⟩) l0.length ca0]
      have hm5 : MapI (W4.setRow rb #[.int .i64 v, .slice (some ⟨g0, 0, none⟩) l0.length ca0]) mb (vOf D) := HM4.out.only (((Only.refl (Just rb) W4).setRow' (.inl (show Just rb rb from rfl)) _)) fun e => HD.out.2.2.2.1 (show mb = rb from e).symm
      have hb5 := (((Only.refl (Just rb) W4).setRow' (.inl (show Just rb rb from rfl)) #[.int .i64 v, .slice (some ⟨g0, 0, none⟩) l0.length ca0])).box HB4.out fun e => HD.out.2.2.1 (show cb = rb from e).symm
      have HO5 := Lib.hid ho5
      have HV5 := Lib.hid hv5
      have HM5 := Lib.hid hm5
      have m19' : (W4.setRow rb #[.int .i64 v, .slice (some ⟨g0, 0, none⟩) l0.length ca0]).cell? ⟨cb, 19, none⟩ = some (.map (some mb)) := hb5.cellAt (cch_m _ _ _ _ _ _)
      clear ho5 hv5 hm5 hb5 m19 hlk
      generalize W4.setRow rb #[.int .i64 v, .slice (some ⟨g0, 0, none⟩) l0.length ca0] = W5 at *
      obtain ⟨u5, W6, hrun, hm6, ho6⟩ := run_delete_i (P := Try.prog) HM5.out lawB Try.underlying3 HI.out 0
      have HM6 := Lib.hid hm6
      have HO6 := Lib.hid ho6
      clear hm6 ho6
      go_wp2
      go_meet
      case rel =>
        refine ⟨?_, ?_, HO5.out.trans' HO6.out fun k hk => .inl (.inl hk)⟩
        · rw [HVD.out]; exact HO6.out.box HV5.out fun e => HD.out.2.2.2.1 (show rb = mb from e)
        · rw [if_pos rfl, ← vOf_del]; exact HM6.out
  case rest =>
    obtain ⟨hv5, hm5, ho5⟩ := hcut
    obtain ⟨W5, e5⟩ : ∃ W5, W5 = wc := ⟨_, rfl⟩
    subst e5
    have hcm := H.out.cm
    have HV5 := Lib.hid hv5
    have HM5 := Lib.hid hm5
    have HO5 := Lib.hid ho5
    have HB5 := Lib.hid (ho5.box HB4.out fun e => e.elim hcm fun e => HD.out.2.2.1 e.symm)
    have HF5 := Lib.hid (ho5.box HF4.out fun e => e.elim HD.out.2.1 HD.out.2.2.2.2.1)
    have hdr : ∀ k, ownB (.slice dA dl.length dc) k → ¬ (k = mb ∨ k = rb) := fun k hk e => e.elim (HDV.out k hk).2 fun e => by have := HDW.out k hk; have := HSZ.out.2; omega
    have HBY5 := Lib.hid (show Byt W5.drew (.slice dA dl.length dc) dl from HBY4.out.only ho5.drew hdr)
    clear hv5 hm5 ho5 hcm hdr HB4 HM4 HF4 HV4 HBY4 m19
    have k1 : W5.drew.cell? ⟨cb, 19, none⟩ = some (.map (some mb)) := HB5.out.cellAt (cch_m _ _ _ _ _ _)
    have k2 : W5.drew.cell? ⟨fb, 0, none⟩ = some (.int .i64 b) := HF5.out.cellAt rfl
    have k3 : W5.drew.cell? ⟨fb, 1, none⟩ = some (.slice dA dl.length dc) := HF5.out.cellAt rfl
    have HI := Lib.hid (show I64 b from ⟨by have := HB0.out; omega, by have := HB0.out; omega⟩)
    go_upto_region 15 with fail
    refine wp_region_tail (S := (fun w' : World => w'.cell? ⟨cb, 19, none⟩ = some (.map (some mb)) ∧ w'.cell? ⟨fb, 0, none⟩ = some (.int .i64 b) ∧ w'.cell? ⟨fb, 1, none⟩ = some (.slice dA dl.length dc))) 9 (by kernel_rfl) (by kernel_rfl) ?_ ?_
    · exact ⟨by assumption, by assumption, by assumption⟩
    intro hSS
    refine wpHd_take (i := 0) (v := ?_) (by kernel_rfl) rfl (by kernel_rfl) (fun _ _ _ h => h) (Or.inl ⟨by rfl, ?_⟩) (by assumption) ?_
    rotate_left
    · intro w hSw; (try dsimp only at hSw); go_simp; (try with_reducible rfl)
    try simp only [Act.put, List.getElem_toArray, List.getElem_cons_succ, List.getElem_cons_zero, List.setIfInBounds_toArray, List.set_cons_zero, List.set_cons_succ]
    refine wpHd_take (i := 1) (v := ?_) (by kernel_rfl) rfl (by kernel_rfl) (fun _ _ _ h => h) (Or.inl ⟨by rfl, ?_⟩) (by assumption) ?_
    rotate_left
    · intro w hSw; (try dsimp only at hSw); go_simp; (try with_reducible rfl)
    try simp only [Act.put, List.getElem_toArray, List.getElem_cons_succ, List.getElem_cons_zero, List.setIfInBounds_toArray, List.set_cons_zero, List.set_cons_succ]
    refine wpHd_take (i := 2) (v := ?_) (by kernel_rfl) rfl (by kernel_rfl) (fun _ _ _ h => h) (Or.inl ⟨by rfl, ?_⟩) (by assumption) ?_
    rotate_left
    · intro w hSw; (try dsimp only at hSw); go_simp; (try with_reducible rfl)
    try simp only [Act.put, List.getElem_toArray, List.getElem_cons_succ, List.getElem_cons_zero, List.setIfInBounds_toArray, List.set_cons_zero, List.set_cons_succ]
    refine wpHd_take (i := 3) (v := ?_) (by kernel_rfl) rfl (by kernel_rfl) (fun _ _ _ h => h) (Or.inl ⟨by rfl, ?_⟩) (by assumption) ?_
    rotate_left
    · intro w hSw; (try dsimp only at hSw); go_simp; (try with_reducible rfl)
    try simp only [Act.put, List.getElem_toArray, List.getElem_cons_succ, List.getElem_cons_zero, List.setIfInBounds_toArray, List.set_cons_zero, List.set_cons_succ]
    refine wpHd_take (i := 4) (v := ?_) (by kernel_rfl) rfl (by kernel_rfl) (fun _ _ _ h => h) (Or.inl ⟨by rfl, ?_⟩) (by assumption) ?_
    rotate_left
    · intro w hSw; (try dsimp only at hSw); go_simp; (try with_reducible rfl)
    try simp only [Act.put, List.getElem_toArray, List.getElem_cons_succ, List.getElem_cons_zero, List.setIfInBounds_toArray, List.set_cons_zero, List.set_cons_succ]
    refine wpHd_take (i := 5) (v := ?_) (by kernel_rfl) rfl (by kernel_rfl) (fun _ _ _ h => h) (Or.inl ⟨by rfl, ?_⟩) (by assumption) ?_
    rotate_left
    · intro w hSw; (try dsimp only at hSw); go_simp; (try with_reducible rfl)
    try simp only [Act.put, List.getElem_toArray, List.getElem_cons_succ, List.getElem_cons_zero, List.setIfInBounds_toArray, List.set_cons_zero, List.set_cons_succ]
    refine wpHd_take (i := 6) (v := ?_) (by kernel_rfl) rfl (by kernel_rfl) (fun _ _ _ h => h) (Or.inl ⟨by rfl, ?_⟩) (by assumption) ?_
    rotate_left
    · intro w hSw; (try dsimp only at hSw); go_simp; (try with_reducible rfl)
    try simp only [Act.put, List.getElem_toArray, List.getElem_cons_succ, List.getElem_cons_zero, List.setIfInBounds_toArray, List.set_cons_zero, List.set_cons_succ]
    refine wpHd_take (i := 7) (v := ?_) (by kernel_rfl) rfl (by kernel_rfl) (fun _ _ _ h => h) (Or.inl ⟨by rfl, ?_⟩) (by assumption) ?_
    rotate_left
    · intro w hSw; (try dsimp only at hSw); go_simp; (try with_reducible rfl)
    try simp only [Act.put, List.getElem_toArray, List.getElem_cons_succ, List.getElem_cons_zero, List.setIfInBounds_toArray, List.set_cons_zero, List.set_cons_succ]
    refine wpHd_one (i := 8) rfl (by kernel_rfl) (fun K hK => ?_)
    go_simp
    refine (clone_any _ dl W5.drew HBY5.out).mono ?_
    rintro e W6 ⟨vv, rfl, hrow6, ho6, hnew6⟩
    have HV6 := Lib.hid hrow6
    have HO6 := Lib.hid ho6
    have HN6 := Lib.hid hnew6
    have k1 := ho6.cell hSS.1 id
    have k2 := ho6.cell hSS.2.1 id
    have k3 := ho6.cell hSS.2.2 id
    clear hrow6 ho6 hnew6
    refine hK.out _ _ ?_ (fun hSS => ?_)
    · exact ⟨by assumption, by assumption, by assumption⟩
    clear hK
    try simp only [Act.put, List.getElem_toArray, List.getElem_cons_succ, List.getElem_cons_zero, List.setIfInBounds_toArray, List.set_cons_zero, List.set_cons_succ]
    refine wpHd_end (by kernel_rfl) ?_
    clear hSS k1 k2 k3
    have HO56 := Lib.hid ((Only.refl Non W5).drew.trans HO6.out)
    have HM6 := Lib.hid (HM5.out.keep HO56.out)
    refine wpList_put_i W6 rfl _ _ _ rfl lawB Try.underlying3 mb (vOf (if g = true then updI D v none else D)) b vv rfl rfl rfl HM6.out HI.out ?_
    intro W7 hm7 ho7
    have HM7 := Lib.hid hm7
    have HO7 := Lib.hid ho7
    have HV7 := Lib.hid (ho7.box (HO56.out.box HV5.out id) fun e => HD.out.2.2.2.1 (show rb = mb from e))
    have HVO := Lib.hid (show (victD D g v).oneCell' = true by
      cases g with
      | false => rfl
      | true =>
        unfold victD
        rw [if_pos rfl]
        cases hDv : D v with
        | none => rfl
        | some p =>
          obtain ⟨l0, v0⟩ := p
          obtain ⟨_, _, g0, ca0, e0, _⟩ := HDAT.out v l0 v0 hDv
          subst e0
          rfl)
    clear hm7 ho7 HM6 HI
    generalize hvd : victD D g v = vd at *
    have HVD := Lib.hid hvd
    clear hvd
    go_wp2_with (first | (refine wpList_load_row rfl 36 _ rfl rb rfl 36 #[.int .i64 v, vd] (0, 0) _ HV7.out Try.underlying36 rfl (by kernel_rfl) ?_) | (refine wpList_store_row rfl 36 _ _ rfl rb #[.int .i64 v, vd] rfl rfl 36 _ HV7.out (by kernel_rfl) rfl (by have := HVO.out; simp [Value.oneCell'] at this ⊢; exact this) ?_))
    have ho78 : Only (Just rb) W7 (W7.setRow rb #[.int .i64 v, vd]) := (Only.refl (Just rb) W7).setRow' (.inl (show Just rb rb from rfl)) _
    have hv8 := HV7.out.setRow' #[.int .i64 v, vd]
    generalize W7.setRow rb #[.int .i64 v, vd] = W8 at *
    refine bodyPost_ret (results_ctt rfl _ _ rb _ #[.int .i64 v, vd] (0, 0) _ rfl hv8 Try.underlying36 rfl (by kernel_rfl)) rfl ?_
    have ho68 : Only (fun k => k = mb ∨ k = rb) W6 W8 := (HO7.out.mono (S' := fun k => k = mb ∨ k = rb) fun k hk => .inl (.inl hk)).trans' ho78 fun k hk => .inl (.inr hk)
    have ho48 : Only (fun k => k = mb ∨ k = rb) W4 W8 := (HO5.out.transN HO56.out).trans ho68
    have how8 : Only (CF2 (KO.F i) mb) w W8 := HO14.out.trans' ho48 fun k hk => hk.elim (fun e => .inl (.inr e)) fun e => .inr (by have := HSZ.out.2; omega)
    have hs5 := HO5.out.size
    have hs6 := HO56.out.size
    have hs8 := ho68.size
    have hmb := HM5.out.lt
    have hcb := HB5.out.lt
    have hrb := HV5.out.lt
    have hdsz : W5.drew.heap.size = W5.heap.size := rfl
    have hnew : DatB W8 cb mb (KO.F i) (c.f 3) dl vv := by
      have hn6 := HN6.out
      have hby6 : Byt W6 vv dl := HV6.out.byt (by have := H.out.right.p3; have := HL.out; omega)
      have hsh := HV6.out
      rcases hsh with ⟨_, e⟩ | ⟨g9, cap9, cur9, rfl, hb9, _⟩
      · have := HDL.out
        have : dl = [] := by simpa [bytes] using e
        rw [this] at HDL
        exact absurd HDL.out (Nat.lt_irrefl _)
      · have h9 := hn6 g9 (ownB_slice.2 rfl)
        have hl9 := hb9.lt
        rw [show (bytes dl).length = dl.length by simp [bytes]] at hby6 ⊢
        refine ⟨HL.out, hby6.only ho68 fun k hk e => ?_, g9, cap9, rfl, by omega, by omega, by omega, fun e => ?_⟩
        · have := ownB_slice.1 hk
          rcases e with e | e <;> omega
        · have := (KO.oc i).lt HR4.out g9 e
          omega
    refine ⟨vv, by rw [HG2.out, HG3.out, HVD.out]; rfl, ?_, fun k hk => ?_, how8⟩
    · rw [HG1.out, HG2.out, HG3.out]
      refine { box := how8.box H.out.box (fun e => e.elim HNC.out H.out.cm), ord := (KO.oc i).only HR4.out ho48 fun k hk e => ?_, map := ?_, keys := fun y => ?_, dat := fun y l' v' hy => ?_, ncb := HNC.out, nmb := HNM.out, right := H.out.right, t1 := H.out.t1, t3 := H.out.t3, hin := ?_ }
      · rcases e with rfl | rfl
        · exact HNM.out hk
        · exact HNV.out hk
      · have hm8 := HM7.out.only ho78 fun e => HD.out.2.2.2.1 (show mb = rb from e).symm
        rw [vOf_set (if g = true then updI D v none else D) b (dl, vv)] at hm8
        exact hm8
      · unfold putD updI
        by_cases e : y = b
        · rw [if_pos e]
          refine ⟨fun _ => ?_, fun _ => rfl⟩
          rcases HLAW.out with ⟨_, _, h9⟩ | ⟨_, _, _, h9⟩
          · exact (h9 y).2 (.inl e)
          · exact (h9 y).2 (.inl e)
        · rw [if_neg e]
          rcases HLAW.out with ⟨hg, _, h9⟩ | ⟨hg, _, _, h9⟩
          · rw [hg, if_neg (by simp), h9 y, HKEYS.out y]
            exact ⟨.inr, fun h => h.resolve_left e⟩
          · rw [hg, if_pos rfl, h9 y]
            by_cases e2 : y = v
            · subst e2; simp [e]
            · rw [if_neg e2, HKEYS.out y]
              exact ⟨fun h => .inr ⟨h, e2⟩, fun h => (h.resolve_left e).1⟩
      · unfold putD updI at hy
        split at hy
        · injection hy with hy
          injection hy with h8 h9
          rw [← h8, ← h9]
          exact hnew
        · cases g with
          | false => exact (H.out.dat y l' v' hy).far how8
          | true =>
            rw [if_pos rfl] at hy
            split at hy
            · cases hy
            · exact (H.out.dat y l' v' hy).far how8
      · obtain ⟨hA, hn9, hcp, e9, h8, h9⟩ := H.out.hin
        exact ⟨hA, hn9, hcp, e9, h8.far how8 fun h0 k hk e => by
          have := h9 h0 k (e9 ▸ hk)
          exact e.elim this.1 this.2.2, h9⟩
    · have := HN6.out k hk
      have := HO14.out.size
      omega
end
end Go.Proofs.Ytdjjlglmhbmnlaa
