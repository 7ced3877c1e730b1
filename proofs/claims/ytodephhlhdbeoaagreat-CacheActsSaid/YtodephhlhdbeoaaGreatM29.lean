/- Several texts, one behind the other: Rci Rcj Rck. -/
import Derived.Test.YtodephhlhdbeoaaGreatM28
import Derived.Test.YtodephhlhdbeoaaGreatM18
import Derived.Test.YtodephhlhdbeoaaGreatM25
namespace Go.Proofs.YtodephhlhdbeoaaGreat
open Go.RowKit Go.ChangeShapes Go.WideShapes
set_option linter.unusedVariables false
set_option linter.unusedSimpArgs false
structure RpJ where
  pb : Nat
  lv : Value
  ob : Nat
  A : Option Addr
  c : Nat
  t : Nat
  B : Nat
def rptC (j : RpJ) (n : Nat) : Array Value := #[.slice j.A n j.c, .slice (some ⟨j.ob, 0, none⟩) (n * 4) (n * 4), .int .i64 ((j.t + 1 : Nat) : Int), j.lv]
structure RptA (j : RpJ) (l : List HintA) (O : Nat → Nat → Int) (qv : Nat → Value) (S : Nat → List Int) (w : World) : Prop where
  box : Box w j.pb 248 (rptC j l.length)
  row : Row 43 w j.lv (qvL l.length qv)
  q : ∀ i, i < l.length → OwnInts 3 w j.B (qv i) (S i)
  hin : HintsAt w j.A l.length j.c l
  prt : Box w j.ob 3 (ptC l.length O)
  t3 : j.t < 3
  ltp : j.pb < j.B
  ltr : ∀ k, ownB j.lv k → k < j.B
  lto : j.ob < j.B
  lth : 0 < l.length → ∀ k o, j.A = some ⟨k, o, none⟩ → k < j.B ∧ ¬ ownB j.lv k
  bs : j.B ≤ w.heap.size
def RpF (j : RpJ) (n : Nat) : Nat → Prop := fun k => k = j.pb ∨ ownB j.lv k ∨ k = j.ob ∨ (0 < n ∧ ∃ o, j.A = some ⟨k, o, none⟩)
def Rpt (j : RpJ) (l : List HintA) (O : Nat → Nat → Int) (S : Nat → List Int) (w : World) : Prop := ∃ qv, RptA j l O qv S w
theorem HintsAt.off {F : Nat → Prop} {w w' : World} {A : Option Addr} {n c : Nat} {l : List HintA} (h : HintsAt w A n c l) (ho : Only F w w') (hF : 0 < l.length → ∀ k o, A = some ⟨k, o, none⟩ → ¬ F k) : HintsAt w' A n c l :=
  ⟨h.len, h.cap, h.max, fun i hi => by
    obtain ⟨g, o, e, hg, h0, h1, h2, h3⟩ := h.at_ i hi
    have hn := hF (by omega) g o e
    exact ⟨g, o, e, Nat.lt_of_lt_of_le hg ho.size, ho.cell h0 hn, ho.cell h1 hn, ho.cell h2 hn, ho.cell h3 hn⟩⟩
theorem HintsAt.blk {w : World} {A : Option Addr} {n c : Nat} {l : List HintA} (h : HintsAt w A n c l) (h0 : 0 < l.length) {k o : Nat} (e : A = some ⟨k, o, none⟩) : k < w.heap.size := by
  obtain ⟨g, o', e', hg, _⟩ := h.at_ 0 h0
  rw [e] at e'; injection e' with e'; injection e' with e1; subst e1
  exact hg
section
variable {j : RpJ} {l : List HintA} {O : Nat → Nat → Int} {qv : Nat → Value} {S S' : Nat → List Int} {w w' : World}
theorem RptA.off {F : Nat → Prop} (h : RptA j l O qv S w) (ho : Only F w w') (hF : ∀ k, RpF j l.length k → ¬ F k) (hB : ∀ k, j.B ≤ k → k < w.heap.size → ¬ F k) : RptA j l O qv S w' :=
  ⟨ho.box h.box (hF _ (.inl rfl)), h.row.only ho fun k hk => hF k (.inr (.inl hk)), fun i hi => (h.q i hi).only ho fun g hg => hB g ((h.q i hi).lt g hg).1 ((h.q i hi).lt g hg).2,
   h.hin.off ho fun h0 k o e => hF k (.inr (.inr (.inr ⟨h0, o, e⟩))), ho.box h.prt (hF _ (.inr (.inr (.inl rfl)))), h.t3, h.ltp, h.ltr, h.lto, h.lth, Nat.le_trans h.bs ho.size⟩
theorem RptA.ltF (h : RptA j l O qv S w) {k : Nat} (hk : RpF j l.length k) : k < j.B := by
  rcases hk with rfl | hk | rfl | ⟨h0, o, e⟩
  · exact h.ltp
  · exact h.ltr k hk
  · exact h.lto
  · exact (h.lth h0 k o e).1
theorem RptA.keep (h : RptA j l O qv S w) (ho : Only Non w w') : RptA j l O qv S w' := h.off ho (fun _ _ => id) fun _ _ _ => id
theorem RptA.congr (h : RptA j l O qv S w) (hS : ∀ i, i < l.length → S i = S' i) : RptA j l O qv S' w :=
  ⟨h.box, h.row, fun i hi => hS i hi ▸ h.q i hi, h.hin, h.prt, h.t3, h.ltp, h.ltr, h.lto, h.lth, h.bs⟩
theorem RptA.c0 (h : RptA j l O qv S w) : w.cell? ⟨j.pb, 0, none⟩ = some (.slice j.A l.length j.c) := h.box.cellAt rfl
theorem RptA.c1 (h : RptA j l O qv S w) : w.cell? ⟨j.pb, 1, none⟩ = some (.slice (some ⟨j.ob, 0, none⟩) (l.length * 4) (l.length * 4)) := h.box.cellAt rfl
theorem RptA.c2 (h : RptA j l O qv S w) : w.cell? ⟨j.pb, 2, none⟩ = some (.int .i64 ((j.t + 1 : Nat) : Int)) := h.box.cellAt rfl
theorem RptA.c3 (h : RptA j l O qv S w) : w.cell? ⟨j.pb, 3, none⟩ = some j.lv := h.box.cellAt rfl
theorem RptA.cq (h : RptA j l O qv S w) {i : Nat} (hi : i < l.length) : ∃ g c, j.lv = .slice (some ⟨g, 0, none⟩) l.length c ∧ w.cell? ⟨g, i, none⟩ = some (qv i) ∧ w.frozen? ⟨g, i, none⟩ = false := by
  obtain ⟨g, c, e, h1, h2⟩ := h.row.cell (qvL_at l.length qv hi)
  rw [qvL_len] at e
  exact ⟨g, c, e, h1, h2⟩
theorem RptA.setq (h : RptA j l O qv S w) {k : Nat} (hk : k < l.length) {g : Nat} (hg : ownB j.lv g) {v : Value} {L : List Int} (hv : OwnInts 3 w j.B v L) : RptA j l O (updN qv k v) (updN S k L) (w.setCell ⟨g, k, none⟩ v) := by
  obtain ⟨cs, hb⟩ := h.row.box hg
  have ho : Only (Just g) w (w.setCell ⟨g, k, none⟩ v) := (Only.refl (Just g) w).setCell (p := ⟨g, k, none⟩) (.inl (show Just g g from rfl)) _
  have hlt := h.ltr g hg
  have nB : ∀ k, j.B ≤ k → ¬ Just g k := fun k hk e => by have h1 : k = g := e; omega
  have hst := h.row.store (i := k) (by rw [qvL_len]; exact hk) v hg
  rw [qvL_set] at hst
  refine ⟨ho.box h.box (h.box.off hb (by decide)), hst, fun i hi => ?_, h.hin.off ho fun h0 k o e e2 => ?_, ho.box h.prt (h.prt.off hb (by decide)), h.t3, h.ltp, h.ltr, h.lto, h.lth, Nat.le_trans h.bs ho.size⟩
  · show OwnInts 3 _ j.B (updN qv k v i) (updN S k L i)
    unfold updN
    by_cases e : i = k
    · rw [if_pos e, if_pos e]
      exact hv.only ho fun g hg => nB g (hv.lt g hg).1
    · rw [if_neg e, if_neg e]
      exact (h.q i hi).only ho fun g hg => nB g ((h.q i hi).lt g hg).1
  · have h1 : k = g := e2
    subst h1
    exact (h.lth h0 k o e).2 hg
end
section
set_option maxHeartbeats 4000000
set_option maxRecDepth 100000
variable {j : RpJ} {l : List HintA} {O : Nat → Nat → Int} {S : Nat → List Int} {w : World} {blocks : Int}
theorem rpt_part {b : Int} (h : Rpt j l O S w) (hP : hintsP blocks l) (hb : 0 ≤ b ∧ b < 64) :
    Calls Tryz.prog 102 #[.pointer (some ⟨j.pb, 0, none⟩), .int .i64 b] w fun e w' => e = .returned (.int .i64 (partV l O b j.t)) ∧ ∃ m, w.drewN m = w' := by
  obtain ⟨qv, hA⟩ := h
  have hn8 := hP.2.2
  have ht3 := hA.t3
  have HR := Lib.hid (rrange_any b w hA.hin hP hb)
  have HA := Lib.hid hA
  have x0 := hA.c0
  clear hA hP
  by_cases hr : rngI l b < l.length
  · have e1 : rngZ l b = rngI l b := by unfold rngZ; rw [if_pos hr]
    have HE := Lib.hid (show partV l O b j.t = O (rngI l b) j.t by unfold partV; rw [if_pos hr])
    have xp := fun m => (show (w.drewN m).cell? ⟨j.ob, rngI l b * 4 + j.t, none⟩ = some (.int .i64 (O (rngI l b) j.t)) from HA.out.prt.cellAt (ptC_at l.length O hr (by omega)))
    have x1 := fun m => (show (w.drewN m).cell? ⟨j.pb, 1, none⟩ = some (.slice (some ⟨j.ob, 0, none⟩) (l.length * 4) (l.length * 4)) from HA.out.c1)
    have x2 := fun m => (show (w.drewN m).cell? ⟨j.pb, 2, none⟩ = some (.int .i64 ((j.t + 1 : Nat) : Int)) from HA.out.c2)
    rw [e1] at HR
    clear e1
    generalize rngI l b = r at *
    have hr0 : (0 : Int) ≤ r := by omega
    have hm1 : IntKind.i64.wrap (4 * (r : Int)) = 4 * r := by rw [IntKind.wrap_i64]; omega
    have hm2 : IntKind.i64.wrap (4 * (r : Int) + ((j.t + 1 : Nat) : Int)) = 4 * r + ((j.t + 1 : Nat) : Int) := by rw [IntKind.wrap_i64]; omega
    have hm3 : IntKind.i64.wrap (4 * (r : Int) + ((j.t + 1 : Nat) : Int) - 1) = ((r * 4 + j.t : Nat) : Int) := by rw [IntKind.wrap_i64]; omega
    have hm4 : ((r * 4 + j.t : Nat) : Int) < ((l.length * 4 : Nat) : Int) := by omega
    generalize hI : r * 4 + j.t = I at *
    generalize ((j.t + 1 : Nat) : Int) = t1 at *
    clear hI
    go_enter Tryz.func102, Tryz.ntmps102
    go_upto_region 4 with (go_at_call 164; refine HR.out.mono ?_; rintro e W1 ⟨rfl, m, rfl⟩)
    have x1 := x1 m
    have x2 := x2 m
    have xp := xp m
    generalize hW : w.drewN m = W at *
    go_quiet (fail)
    go_wp2
    go_ret
    exact ⟨by rw [HE.out]; rfl, m + nq, by rw [← hW, World.drewN_drewN]⟩
  · have e1 : rngZ l b = -1 := by unfold rngZ; rw [if_neg hr]
    have HE := Lib.hid (show partV l O b j.t = 0 by unfold partV; rw [if_neg hr])
    rw [e1] at HR
    clear e1 hr
    go_enter Tryz.func102, Tryz.ntmps102
    go_wp2_with (go_at_call 164; refine HR.out.mono ?_; rintro e W1 ⟨rfl, m, rfl⟩)
    go_ret
    exact ⟨by rw [HE.out]; rfl, m, rfl⟩
theorem rpt_has {b : Int} (h : Rpt j l O S w) (hI : PrtI1 l O j.t S) (hP : hintsP blocks l) (hb : 0 ≤ b ∧ b < 64) :
    Calls Tryz.prog 264 #[.pointer (some ⟨j.pb, 0, none⟩), .int .i64 b] w fun e w' => e = .returned (.bool (decide (b ∈ S (rngI l b)))) ∧ ∃ m, w.drewN m = w' := by
  obtain ⟨qv, hA⟩ := h
  have hn8 := hP.2.2
  have HR := Lib.hid (rrange_any b w hA.hin hP hb)
  have HA := Lib.hid hA
  have x0 := hA.c0
  clear hA hP
  by_cases hr : rngI l b < l.length
  · have e1 : rngZ l b = rngI l b := by unfold rngZ; rw [if_pos hr]
    obtain ⟨g, c, elv, hq, _⟩ := HA.out.cq hr
    have hown := HA.out.q _ hr
    obtain ⟨A, c2, eq, h1, h2⟩ := hown.shape
    have HH := Lib.hid (fun m => has_ints A c2 _ (S (rngI l b)) b (w.drewN m) (by rw [← eq]; exact (hown.only ((Only.refl Non w).drewN m) fun _ _ => id).at) (Nat.le_trans h1 h2))
    have x3 := fun m => (show (w.drewN m).cell? ⟨j.pb, 3, none⟩ = some (.slice (some ⟨g, 0, none⟩) l.length c) from HA.out.c3.trans (by rw [elv]))
    rw [eq] at hq
    have xq := fun m => (show (w.drewN m).cell? ⟨g, rngI l b, none⟩ = some (.slice A (S (rngI l b)).length c2) from hq)
    rw [e1] at HR
    clear e1 hown eq h1 h2 hq elv
    generalize decide (b ∈ S (rngI l b)) = d at *
    generalize (S (rngI l b)).length = ln at *
    generalize rngI l b = r at *
    have hri : (r : Int) < l.length := by omega
    have hr0 : (0 : Int) ≤ r := by omega
    go_enter Tryz.func264, Tryz.ntmps264
    go_upto_region 2 with (go_at_call 164; refine HR.out.mono ?_; rintro e W1 ⟨rfl, m, rfl⟩)
    have x3 := x3 m
    have xq := xq m
    have HHm := Lib.hid (HH.out m)
    generalize hW : w.drewN m = W at *
    go_wp2_with (go_at_call 43; refine HHm.out.mono ?_; rintro e W1 ⟨rfl, rfl⟩)
    go_ret
    exact ⟨rfl, m, hW⟩
  · have e1 : rngZ l b = -1 := by unfold rngZ; rw [if_neg hr]
    have HE := Lib.hid (show decide (b ∈ S (rngI l b)) = false from decide_eq_false fun h2 => hr (hI.at_ h2).2.1)
    rw [e1] at HR
    clear e1 hr hI
    go_enter Tryz.func264, Tryz.ntmps264
    go_wp2_with (go_at_call 164; refine HR.out.mono ?_; rintro e W1 ⟨rfl, m, rfl⟩)
    go_ret
    exact ⟨by rw [HE.out]; rfl, m, rfl⟩
end
def wzC (v : Int) (g was : Bool) : Array Value := dwC (.slice none 0 0) v g was 0
theorem wzC_one (v : Int) (g was : Bool) : (wzC v g was).all (·.oneCell') = true := dwC_one _ _ _ _ _ _ _
section
variable {j : RpJ} {l : List HintA} {O : Nat → Nat → Int} {qv : Nat → Value} {S S' : Nat → List Int} {w w' : World}
theorem RptA.offT (h : RptA j l O qv S w) {g : Nat} {cs : Array Value} (hb : Box w g 252 cs) (hg : j.B ≤ g) (ho : Only (Just g) w w') : RptA j l O qv S w' := by
  have n1 : ∀ k, k < j.B → ¬ Just g k := fun k hk e => by have h1 : k = g := e; omega
  exact ⟨ho.box h.box (n1 _ h.ltp), h.row.only ho fun k hk => n1 k (h.ltr k hk), fun i hi => (h.q i hi).only ho fun k hk e => by
    obtain ⟨c2, h2⟩ := (h.q i hi).boxOf hk
    exact (h2.off hb (by decide)) e, h.hin.off ho fun h0 k o e => n1 k (h.lth h0 k o e).1, ho.box h.prt (n1 _ h.lto), h.t3, h.ltp, h.ltr, h.lto, h.lth, Nat.le_trans h.bs ho.size⟩
end
def RpDo (j : RpJ) (l : List HintA) (O : Nat → Nat → Int) (S' : Nat → List Int) (v : Int) (g was : Bool) (w : World) (e : Ending) (w' : World) : Prop :=
  e = .returned (.agg (wzC v g was)) ∧ Rpt j l O S' w' ∧ Only (ownB j.lv) w w'
theorem rem_cg {l : List HintA} {O : Nat → Nat → Int} {t : Nat} {S : Nat → List Int} (h : PrtI1 l O t S) (b : Int) (i : Nat) : updN S (rngI l b) ((S (rngI l b)).erase b) i = remS S b i := by
  unfold updN remS
  by_cases e : i = rngI l b
  · rw [if_pos e, e]
  · rw [if_neg e, List.erase_of_not_mem fun h2 => e (h.at_ h2).1]
theorem front_cg {S : Nat → List Int} (r : Nat) (b : Int) (i : Nat) : updN S r (b :: S r) i = frontS S r b i := rfl
section
set_option maxHeartbeats 4000000
set_option maxRecDepth 100000
variable {j : RpJ} {l : List HintA} {O : Nat → Nat → Int} {S : Nat → List Int} {w : World} {blocks : Int} {b : Int}
theorem rpt_rem (h : Rpt j l O S w) (hI : PrtI1 l O j.t S) (hP : hintsP blocks l) (hbb : 0 ≤ b ∧ b < 64) (hb : b ∈ S (rngI l b)) (hl16 : (S (rngI l b)).length ≤ 64) :
    Calls Tryz.prog 219 #[.pointer (some ⟨j.pb, 0, none⟩), .agg #[.int .i64 2, .int .i64 b]] w (RpDo j l O (remS S b) 0 false true w) := by
  have hr := (hI.at_ hb).2.1
  have HWB := Lib.hid (show decide (b ∈ S (rngI l b)) = true from decide_eq_true hb)
  have HL16 := Lib.hid hl16
  clear hb hl16
  obtain ⟨qv, hA⟩ := h
  have hn8 := hP.2.2
  have HBB := Lib.hid hbb
  have HPP := Lib.hid hP
  have HI := Lib.hid hI
  have e1 : rngZ l b = rngI l b := by unfold rngZ; rw [if_pos hr]
  have HA1 := Lib.hid (Box.fresh w 255 #[.int .i64 2, .int .i64 b])
  have ho1 : Only Non w (w.alloc (.cells #[.int .i64 2, .int .i64 b] 255)) := (Only.refl Non w).alloc _
  have HO1 := Lib.hid ho1
  have HRA := Lib.hid (hA.keep ho1)
  have HJB := Lib.hid hA.bs
  obtain ⟨r, hrr⟩ : ∃ r, r = rngI l b := ⟨_, rfl⟩
  have HRR := Lib.hid hrr
  have HR := Lib.hid (show r < l.length by rw [hrr]; exact hr)
  have hri : (r : Int) < l.length := by omega
  have hr0 : (0 : Int) ≤ r := by omega
  clear hA ho1 hP hI hr hrr
  go_enter Tryz.func219, Tryz.ntmps219
  go_upto_region 1 with fail
  change Code.wp _ _ _ _ ((w.alloc (.cells #[.int .i64 2, .int .i64 b] 255)).alloc (.cells (wzC 0 false false) 252))
  have hsz : (w.alloc (.cells #[.int .i64 2, .int .i64 b] 255)).heap.size = w.heap.size + 1 := World.size_alloc ..
  generalize w.alloc (.cells #[.int .i64 2, .int .i64 b] 255) = W0 at *
  obtain ⟨ab, hab⟩ : ∃ ab, ab = w.heap.size := ⟨_, rfl⟩
  rw [← hab] at HA1 hsz ⊢
  have HAB := Lib.hid (show w.heap.size ≤ ab from Nat.le_of_eq hab.symm)
  clear hab
  have HR1 := Lib.hid (Box.fresh W0 252 (wzC 0 false false))
  have ho1 : Only Non W0 (W0.alloc (.cells (wzC 0 false false) 252)) := (Only.refl Non W0).alloc _
  have HA2 := Lib.hid (ho1.box HA1.out id)
  have HO2 := Lib.hid (HO1.out.trans ho1)
  have HRB := Lib.hid (show w.heap.size ≤ W0.heap.size from HO1.out.size)
  have HRA2 := Lib.hid (HRA.out.keep ho1)
  clear ho1 HA1 HO1 HRA
  generalize W0.alloc (.cells (wzC 0 false false) 252) = W1 at *
  rw [hsz] at HR1 HRB
  clear hsz
  generalize ab + 1 = rb at *
  have HHS := Lib.hid (rpt_has (b := b) ⟨qv, HRA2.out⟩ HI.out HPP.out HBB.out)
  have HHS : Hid (Calls Tryz.prog 264 #[.pointer (some ⟨j.pb, 0, none⟩), .int .i64 b] W1 fun e w' => e = .returned (.bool true) ∧ ∃ m, W1.drewN m = w') := Lib.hid (by have h9 := HHS.out; rw [HWB.out] at h9; exact h9)
  have y0 : W1.cell? ⟨ab, 0, none⟩ = some (.int .i64 2) := HA2.out.cellAt rfl
  have y1 : W1.cell? ⟨ab, 1, none⟩ = some (.int .i64 b) := HA2.out.cellAt rfl
  go_upto_region 2 with (go_at_call 264; refine HHS.out.mono ?_; rintro e Wm ⟨rfl, m, hm⟩; have HNm := Lib.hid (show Only Non W1 Wm from hm ▸ (Only.refl Non W1).drewN m); clear hm)
  change Code.wp _ _ _ _ (Wm.alloc (.cells (wzC 0 false true) 252))
  have ho1 : Only Non W1 (Wm.alloc (.cells (wzC 0 false true) 252)) := HNm.out.alloc _
  have HE2 := Lib.hid (Box.fresh Wm 252 (wzC 0 false true))
  have HR2 := Lib.hid (ho1.box HR1.out id)
  have HA3 := Lib.hid (ho1.box HA2.out id)
  have HO3 := Lib.hid (HO2.out.trans ho1)
  have HRA3 := Lib.hid (HRA2.out.keep ho1)
  have HEB := Lib.hid (show w.heap.size ≤ Wm.heap.size ∧ rb < Wm.heap.size from ⟨Nat.le_trans HO2.out.size HNm.out.size, Nat.lt_of_lt_of_le HR1.out.lt HNm.out.size⟩)
  clear ho1 HHS HR1 HA2 HO2 HRA2 y0 y1 HNm
  generalize Wm.alloc (.cells (wzC 0 false true) 252) = W2 at *
  generalize Wm.heap.size = eb at *
  have HRG := Lib.hid (fun q => rrange_any b (W2.drewN q) (HRA3.out.hin.only ((Only.refl Non W2).drewN q) fun _ _ => id) HPP.out HBB.out)
  rw [e1, ← HRR.out] at HRG
  clear e1
  have x0 : W2.cell? ⟨j.pb, 0, none⟩ = some (.slice j.A l.length j.c) := HRA3.out.c0
  have y1 : W2.cell? ⟨ab, 1, none⟩ = some (.int .i64 b) := HA3.out.cellAt rfl
  go_quiet ((go_at_call 164; exact quiet_d ((HRG.out _).mono fun _ _ ⟨he, m, hm⟩ => ⟨he, m, hm.symm⟩)))
  have HE3 := Lib.hid (show Box (W2.drewN nq) eb 252 (wzC 0 false true) from ((Only.refl Non W2).drewN nq).box HE2.out id)
  have HR3 := Lib.hid (show Box (W2.drewN nq) rb 252 (wzC 0 false false) from ((Only.refl Non W2).drewN nq).box HR2.out id)
  have HA4 := Lib.hid (show Box (W2.drewN nq) ab 255 #[.int .i64 2, .int .i64 b] from ((Only.refl Non W2).drewN nq).box HA3.out id)
  have HO4 := Lib.hid (HO3.out.drewN nq)
  have HRA4 := Lib.hid (HRA3.out.keep ((Only.refl Non W2).drewN nq))
  clear HE2 HR2 HA3 HO3 HRA3 HRG x0 y1
  generalize W2.drewN nq = W3 at *
  have y0 : W3.cell? ⟨ab, 0, none⟩ = some (.int .i64 2) := HA4.out.cellAt rfl
  have y1 : W3.cell? ⟨ab, 1, none⟩ = some (.int .i64 b) := HA4.out.cellAt rfl
  have HLV : Hid (∃ lg lc, j.lv = .slice (some ⟨lg, 0, none⟩) l.length lc) := Lib.hid (by obtain ⟨g, c, e, _⟩ := HRA4.out.cq HR.out; exact ⟨g, c, e⟩)
  obtain ⟨lg, lc, hlv⟩ := HLV.out
  have HLV := Lib.hid hlv
  clear hlv
  have z3 : W3.cell? ⟨eb, 3, none⟩ = some (.bool true) := HE3.out.cellAt rfl
  have HLN := Lib.hid (show (S r).length ≤ 10000 by have := HL16.out; rw [← HRR.out] at this; omega)
  go_upto_region 7 with fail
  have k1 : W3.drew.cell? ⟨j.pb, 3, none⟩ = some (.slice (some ⟨lg, 0, none⟩) l.length lc) := HRA4.out.c3.trans (by rw [HLV.out])
  have k2 : W3.drew.cell? ⟨lg, r, none⟩ = some (qv r) := by
    obtain ⟨g, c, e, h1, _⟩ := HRA4.out.cq HR.out
    rw [HLV.out] at e
    injection e with e e2; injection e with e; injection e with e
    rw [e]; exact h1
  have k3 : W3.drew.cell? ⟨ab, 1, none⟩ = some (.int .i64 b) := HA4.out.cellAt rfl
  refine wp_region_tail (S := (fun w' : World => w'.cell? ⟨j.pb, 3, none⟩ = some (.slice (some ⟨lg, 0, none⟩) l.length lc) ∧ w'.cell? ⟨lg, r, none⟩ = some (qv r) ∧ w'.cell? ⟨ab, 1, none⟩ = some (.int .i64 b))) 15 (by kernel_rfl) (by kernel_rfl) ?_ ?_
  · exact ⟨by assumption, by assumption, by assumption⟩
  intro hSS
  refine wpHd_take (i := 0) (v := ?_) (by kernel_rfl) rfl (by kernel_rfl) (fun _ _ _ h => h) (.inl ⟨by rfl, ?_⟩) hSS ?_
  rotate_left
  · intro w hSw; (try dsimp only at hSw); go_simp; (try with_reducible rfl)
  refine wpHd_take (i := 1) (v := ?_) (by kernel_rfl) rfl (by kernel_rfl) (fun _ _ _ h => h) (.inl ⟨by rfl, ?_⟩) hSS ?_
  rotate_left
  · intro w hSw; (try dsimp only at hSw); go_simp; (try with_reducible rfl)
  refine wpHd_take (i := 2) (v := ?_) (by kernel_rfl) rfl (by kernel_rfl) (fun _ _ _ h => h) (.inl ⟨by rfl, ?_⟩) hSS ?_
  rotate_left
  · intro w hSw; (try dsimp only at hSw); go_simp; (try with_reducible rfl)
  refine wpHd_take (i := 3) (v := ?_) (by kernel_rfl) rfl (by kernel_rfl) (fun _ _ _ h => h) (.inl ⟨by rfl, ?_⟩) hSS ?_
  rotate_left
  · intro w hSw; (try dsimp only at hSw); go_simp; (try with_reducible rfl)
  refine wpHd_take (i := 4) (v := ?_) (by kernel_rfl) rfl (by kernel_rfl) (fun _ _ _ h => h) (.inl ⟨by rfl, ?_⟩) hSS ?_
  rotate_left
  · intro w hSw; (try dsimp only at hSw); go_simp; (try with_reducible rfl)
  try simp only [Act.put, List.getElem_toArray, List.getElem_cons_succ, List.getElem_cons_zero, List.setIfInBounds_toArray, List.set_cons_zero, List.set_cons_succ]
  refine wpHd_take (i := 5) (v := ?_) (by kernel_rfl) rfl (by kernel_rfl) (fun _ _ _ h => h) (.inl ⟨by rfl, ?_⟩) hSS ?_
  rotate_left
  · intro w hSw; (try dsimp only at hSw); go_simp; (try with_reducible rfl)
  refine wpHd_take (i := 6) (v := ?_) (by kernel_rfl) rfl (by kernel_rfl) (fun _ _ _ h => h) (.inl ⟨by rfl, ?_⟩) hSS ?_
  rotate_left
  · intro w hSw; (try dsimp only at hSw); go_simp; (try with_reducible rfl)
  refine wpHd_take (i := 7) (v := ?_) (by kernel_rfl) rfl (by kernel_rfl) (fun _ _ _ h => h) (.inl ⟨by rfl, ?_⟩) hSS ?_
  rotate_left
  · intro w hSw; (try dsimp only at hSw); go_simp; (try with_reducible rfl)
  refine wpHd_take (i := 8) (v := ?_) (by kernel_rfl) rfl (by kernel_rfl) (fun _ _ _ h => h) (.inl ⟨by rfl, ?_⟩) hSS ?_
  rotate_left
  · intro w hSw; (try dsimp only at hSw); go_simp; (try with_reducible rfl)
  refine wpHd_take (i := 9) (v := ?_) (by kernel_rfl) rfl (by kernel_rfl) (fun _ _ _ h => h) (.inl ⟨by rfl, ?_⟩) hSS ?_
  rotate_left
  · intro w hSw; (try dsimp only at hSw); go_simp; (try with_reducible rfl)
  try simp only [Act.put, List.getElem_toArray, List.getElem_cons_succ, List.getElem_cons_zero, List.setIfInBounds_toArray, List.set_cons_zero, List.set_cons_succ]
  refine wpHd_take (i := 10) (v := ?_) (by kernel_rfl) rfl (by kernel_rfl) (fun _ _ _ h => h) (.inl ⟨by rfl, ?_⟩) hSS ?_
  rotate_left
  · intro w hSw; (try dsimp only at hSw); go_simp; (try with_reducible rfl)
  refine wpHd_take (i := 11) (v := ?_) (by kernel_rfl) rfl (by kernel_rfl) (fun _ _ _ h => h) (.inl ⟨by rfl, ?_⟩) hSS ?_
  rotate_left
  · intro w hSw; (try dsimp only at hSw); go_simp; (try with_reducible rfl)
  refine wpHd_take (i := 12) (v := ?_) (by kernel_rfl) rfl (by kernel_rfl) (fun _ _ _ h => h) (.inl ⟨by rfl, ?_⟩) hSS ?_
  rotate_left
  · intro w hSw; (try dsimp only at hSw); go_simp; (try with_reducible rfl)
  refine wpHd_take (i := 13) (v := ?_) (by kernel_rfl) rfl (by kernel_rfl) (fun _ _ _ h => h) (.inl ⟨by rfl, ?_⟩) hSS ?_
  rotate_left
  · intro w hSw; (try dsimp only at hSw); go_simp; (try with_reducible rfl)
  try simp only [Act.put, List.getElem_toArray, List.getElem_cons_succ, List.getElem_cons_zero, List.setIfInBounds_toArray, List.set_cons_zero, List.set_cons_succ]
  refine wpHd_one (i := 14) rfl (by kernel_rfl) (fun Kc hK => ?_)
  go_simp
  refine (without_any b W3.drew ((HRA4.out.q r HR.out).only ((Only.refl Non W3).drew) fun _ _ => id) HLN.out).mono ?_
  rintro e W4 ⟨vn, rfl, hon, hnn⟩
  obtain ⟨An, nn, cn, rfl⟩ : ∃ A n c, vn = Value.slice A n c := by obtain ⟨A, c, e, _⟩ := hon.shape; exact ⟨A, _, c, e⟩
  have HVN := Lib.hid hon
  have HNN := Lib.hid ((Only.refl Non W3).drew.trans hnn)
  have k1 := hnn.cell hSS.1 id
  have k2 := hnn.cell hSS.2.1 id
  have k3 := hnn.cell hSS.2.2 id
  clear hon hnn
  refine hK.out _ _ ?_ (fun hSS => ?_)
  · exact ⟨by assumption, by assumption, by assumption⟩
  clear hK
  try simp only [Act.put, List.getElem_toArray, List.getElem_cons_succ, List.getElem_cons_zero, List.setIfInBounds_toArray, List.set_cons_zero, List.set_cons_succ]
  refine wpHd_end (by kernel_rfl) ?_
  have hfz : W4.frozen? ⟨lg, r, none⟩ = false := by
    obtain ⟨cs, hb⟩ := (HRA4.out.keep HNN.out).row.box (k := lg) (by rw [HLV.out]; exact ownB_slice.2 rfl)
    exact hb.free r
  clear hSS k3
  go_upto_region 8 with fail
  have hoS : Only (ownB j.lv) W3 (W4.setCell ⟨lg, r, none⟩ (.slice An nn cn)) := (((Only.refl (ownB j.lv) W3).transN HNN.out).setCell (p := ⟨lg, r, none⟩) (.inl (by rw [HLV.out]; exact ownB_slice.2 rfl)) _)
  have hown : OwnInts 3 W4 j.B (.slice An nn cn) ((S r).erase b) := by
    have h1 := HVN.out.low HRA4.out.bs
    rw [erase_filter (HI.out.nodup r)] at h1
    exact h1
  have HRA5 := Lib.hid ((HRA4.out.keep HNN.out).setq HR.out (g := lg) (by rw [HLV.out]; exact ownB_slice.2 rfl) hown)
  have HE5 := Lib.hid (hoS.box HE3.out (fun hk => by have h9 := HRA4.out.ltr _ hk; have := HJB.out; have := HAB.out; have := HRB.out; have := HEB.out; omega))
  have HR5 := Lib.hid (hoS.box HR3.out (fun hk => by have h9 := HRA4.out.ltr _ hk; have := HJB.out; have := HAB.out; have := HRB.out; have := HEB.out; omega))
  have HA5 := Lib.hid (hoS.box HA4.out (fun hk => by have h9 := HRA4.out.ltr _ hk; have := HJB.out; have := HAB.out; have := HRB.out; have := HEB.out; omega))
  have HO5 := Lib.hid ((HO4.out.mono fun _ hb => hb.elim).trans hoS)
  change Code.wp _ _ _ _ (W4.setCell ⟨lg, r, none⟩ (.slice An nn cn))
  clear k1 k2 hfz hoS hown HRA4 HE3 HR3 HA4 HO4 HVN HNN
  generalize W4.setCell ⟨lg, r, none⟩ (.slice An nn cn) = W5 at *
  generalize updN qv r (.slice An nn cn) = qv' at *
  have y0 : W5.cell? ⟨ab, 0, none⟩ = some (.int .i64 2) := HA5.out.cellAt rfl
  go_wp2_with (first | (refine wpList_load_row rfl 252 _ rfl eb rfl 252 (wzC 0 false true) (0, 0) _ HE5.out Tryz.underlying252 rfl (by kernel_rfl) ?_) | (refine wpList_store_row rfl 252 _ _ rfl rb (wzC 0 false true) rfl rfl 252 _ HR5.out (by kernel_rfl) rfl (wzC_one _ _ _) ?_))
  (try simp only [Exit.inBlock, Exit.then])
  refine bodyPost_ret (results_cell_row rfl _ _ rb _ (wzC 0 false true) (0, 0) _ rfl (HR5.out.setRow' _) Tryz.underlying252 rfl (by kernel_rfl)) rfl ?_
  have hos : Only (Just rb) W5 (W5.setRow rb (wzC 0 false true)) := (Only.refl (Just rb) W5).setRow' (.inl rfl) _
  exact ⟨rfl, ⟨_, (HRA5.out.congr fun i _ => by rw [HRR.out]; exact rem_cg HI.out b i).offT HR5.out (by have := HJB.out; have := HRB.out; omega) hos⟩, HO5.out.setRow' (.inr (by have := HRB.out; omega)) _⟩
theorem rpt_in0 (h : Rpt j l O S w) (hI : PrtI1 l O j.t S) (hP : hintsP blocks l) (hbb : 0 ≤ b ∧ b < 64) (hb : b ∈ S (rngI l b)) (hl16 : (S (rngI l b)).length ≤ 64) :
    Calls Tryz.prog 219 #[.pointer (some ⟨j.pb, 0, none⟩), .agg #[.int .i64 0, .int .i64 b]] w (RpDo j l O (frontS (remS S b) (rngI l b) b) 0 false true w) := by
  have hr := (hI.at_ hb).2.1
  have HWB := Lib.hid (show decide (b ∈ S (rngI l b)) = true from decide_eq_true hb)
  have HL16 := Lib.hid hl16
  clear hb hl16
  obtain ⟨qv, hA⟩ := h
  have hn8 := hP.2.2
  have HBB := Lib.hid hbb
  have HPP := Lib.hid hP
  have HI := Lib.hid hI
  have e1 : rngZ l b = rngI l b := by unfold rngZ; rw [if_pos hr]
  have HA1 := Lib.hid (Box.fresh w 255 #[.int .i64 0, .int .i64 b])
  have ho1 : Only Non w (w.alloc (.cells #[.int .i64 0, .int .i64 b] 255)) := (Only.refl Non w).alloc _
  have HO1 := Lib.hid ho1
  have HRA := Lib.hid (hA.keep ho1)
  have HJB := Lib.hid hA.bs
  obtain ⟨r, hrr⟩ : ∃ r, r = rngI l b := ⟨_, rfl⟩
  have HRR := Lib.hid hrr
  have HR := Lib.hid (show r < l.length by rw [hrr]; exact hr)
  have hri : (r : Int) < l.length := by omega
  have hr0 : (0 : Int) ≤ r := by omega
  clear hA ho1 hP hI hr hrr
  go_enter Tryz.func219, Tryz.ntmps219
  go_upto_region 1 with fail
  change Code.wp _ _ _ _ ((w.alloc (.cells #[.int .i64 0, .int .i64 b] 255)).alloc (.cells (wzC 0 false false) 252))
  have hsz : (w.alloc (.cells #[.int .i64 0, .int .i64 b] 255)).heap.size = w.heap.size + 1 := World.size_alloc ..
  generalize w.alloc (.cells #[.int .i64 0, .int .i64 b] 255) = W0 at *
  obtain ⟨ab, hab⟩ : ∃ ab, ab = w.heap.size := ⟨_, rfl⟩
  rw [← hab] at HA1 hsz ⊢
  have HAB := Lib.hid (show w.heap.size ≤ ab from Nat.le_of_eq hab.symm)
  clear hab
  have HR1 := Lib.hid (Box.fresh W0 252 (wzC 0 false false))
  have ho1 : Only Non W0 (W0.alloc (.cells (wzC 0 false false) 252)) := (Only.refl Non W0).alloc _
  have HA2 := Lib.hid (ho1.box HA1.out id)
  have HO2 := Lib.hid (HO1.out.trans ho1)
  have HRB := Lib.hid (show w.heap.size ≤ W0.heap.size from HO1.out.size)
  have HRA2 := Lib.hid (HRA.out.keep ho1)
  clear ho1 HA1 HO1 HRA
  generalize W0.alloc (.cells (wzC 0 false false) 252) = W1 at *
  rw [hsz] at HR1 HRB
  clear hsz
  generalize ab + 1 = rb at *
  have HHS := Lib.hid (rpt_has (b := b) ⟨qv, HRA2.out⟩ HI.out HPP.out HBB.out)
  have HHS : Hid (Calls Tryz.prog 264 #[.pointer (some ⟨j.pb, 0, none⟩), .int .i64 b] W1 fun e w' => e = .returned (.bool true) ∧ ∃ m, W1.drewN m = w') := Lib.hid (by have h9 := HHS.out; rw [HWB.out] at h9; exact h9)
  have y0 : W1.cell? ⟨ab, 0, none⟩ = some (.int .i64 0) := HA2.out.cellAt rfl
  have y1 : W1.cell? ⟨ab, 1, none⟩ = some (.int .i64 b) := HA2.out.cellAt rfl
  go_upto_region 2 with (go_at_call 264; refine HHS.out.mono ?_; rintro e Wm ⟨rfl, m, hm⟩; have HNm := Lib.hid (show Only Non W1 Wm from hm ▸ (Only.refl Non W1).drewN m); clear hm)
  change Code.wp _ _ _ _ (Wm.alloc (.cells (wzC 0 false true) 252))
  have ho1 : Only Non W1 (Wm.alloc (.cells (wzC 0 false true) 252)) := HNm.out.alloc _
  have HE2 := Lib.hid (Box.fresh Wm 252 (wzC 0 false true))
  have HR2 := Lib.hid (ho1.box HR1.out id)
  have HA3 := Lib.hid (ho1.box HA2.out id)
  have HO3 := Lib.hid (HO2.out.trans ho1)
  have HRA3 := Lib.hid (HRA2.out.keep ho1)
  have HEB := Lib.hid (show w.heap.size ≤ Wm.heap.size ∧ rb < Wm.heap.size from ⟨Nat.le_trans HO2.out.size HNm.out.size, Nat.lt_of_lt_of_le HR1.out.lt HNm.out.size⟩)
  clear ho1 HHS HR1 HA2 HO2 HRA2 y0 y1 HNm
  generalize Wm.alloc (.cells (wzC 0 false true) 252) = W2 at *
  generalize Wm.heap.size = eb at *
  have HRG := Lib.hid (fun q => rrange_any b (W2.drewN q) (HRA3.out.hin.only ((Only.refl Non W2).drewN q) fun _ _ => id) HPP.out HBB.out)
  rw [e1, ← HRR.out] at HRG
  clear e1
  have x0 : W2.cell? ⟨j.pb, 0, none⟩ = some (.slice j.A l.length j.c) := HRA3.out.c0
  have y1 : W2.cell? ⟨ab, 1, none⟩ = some (.int .i64 b) := HA3.out.cellAt rfl
  go_quiet ((go_at_call 164; exact quiet_d ((HRG.out _).mono fun _ _ ⟨he, m, hm⟩ => ⟨he, m, hm.symm⟩)))
  have HE3 := Lib.hid (show Box (W2.drewN nq) eb 252 (wzC 0 false true) from ((Only.refl Non W2).drewN nq).box HE2.out id)
  have HR3 := Lib.hid (show Box (W2.drewN nq) rb 252 (wzC 0 false false) from ((Only.refl Non W2).drewN nq).box HR2.out id)
  have HA4 := Lib.hid (show Box (W2.drewN nq) ab 255 #[.int .i64 0, .int .i64 b] from ((Only.refl Non W2).drewN nq).box HA3.out id)
  have HO4 := Lib.hid (HO3.out.drewN nq)
  have HRA4 := Lib.hid (HRA3.out.keep ((Only.refl Non W2).drewN nq))
  clear HE2 HR2 HA3 HO3 HRA3 HRG x0 y1
  generalize W2.drewN nq = W3 at *
  have y0 : W3.cell? ⟨ab, 0, none⟩ = some (.int .i64 0) := HA4.out.cellAt rfl
  have y1 : W3.cell? ⟨ab, 1, none⟩ = some (.int .i64 b) := HA4.out.cellAt rfl
  have HLV : Hid (∃ lg lc, j.lv = .slice (some ⟨lg, 0, none⟩) l.length lc) := Lib.hid (by obtain ⟨g, c, e, _⟩ := HRA4.out.cq HR.out; exact ⟨g, c, e⟩)
  obtain ⟨lg, lc, hlv⟩ := HLV.out
  have HLV := Lib.hid hlv
  clear hlv
  have z3 : W3.cell? ⟨eb, 3, none⟩ = some (.bool true) := HE3.out.cellAt rfl
  have HLN := Lib.hid (show (S r).length ≤ 10000 by have := HL16.out; rw [← HRR.out] at this; omega)
  go_upto_region 7 with fail
  have k1 : W3.drew.cell? ⟨j.pb, 3, none⟩ = some (.slice (some ⟨lg, 0, none⟩) l.length lc) := HRA4.out.c3.trans (by rw [HLV.out])
  have k2 : W3.drew.cell? ⟨lg, r, none⟩ = some (qv r) := by
    obtain ⟨g, c, e, h1, _⟩ := HRA4.out.cq HR.out
    rw [HLV.out] at e
    injection e with e e2; injection e with e; injection e with e
    rw [e]; exact h1
  have k3 : W3.drew.cell? ⟨ab, 1, none⟩ = some (.int .i64 b) := HA4.out.cellAt rfl
  refine wp_region_tail (S := (fun w' : World => w'.cell? ⟨j.pb, 3, none⟩ = some (.slice (some ⟨lg, 0, none⟩) l.length lc) ∧ w'.cell? ⟨lg, r, none⟩ = some (qv r) ∧ w'.cell? ⟨ab, 1, none⟩ = some (.int .i64 b))) 15 (by kernel_rfl) (by kernel_rfl) ?_ ?_
  · exact ⟨by assumption, by assumption, by assumption⟩
  intro hSS
  refine wpHd_take (i := 0) (v := ?_) (by kernel_rfl) rfl (by kernel_rfl) (fun _ _ _ h => h) (.inl ⟨by rfl, ?_⟩) hSS ?_
  rotate_left
  · intro w hSw; (try dsimp only at hSw); go_simp; (try with_reducible rfl)
  refine wpHd_take (i := 1) (v := ?_) (by kernel_rfl) rfl (by kernel_rfl) (fun _ _ _ h => h) (.inl ⟨by rfl, ?_⟩) hSS ?_
  rotate_left
  · intro w hSw; (try dsimp only at hSw); go_simp; (try with_reducible rfl)
  refine wpHd_take (i := 2) (v := ?_) (by kernel_rfl) rfl (by kernel_rfl) (fun _ _ _ h => h) (.inl ⟨by rfl, ?_⟩) hSS ?_
  rotate_left
  · intro w hSw; (try dsimp only at hSw); go_simp; (try with_reducible rfl)
  refine wpHd_take (i := 3) (v := ?_) (by kernel_rfl) rfl (by kernel_rfl) (fun _ _ _ h => h) (.inl ⟨by rfl, ?_⟩) hSS ?_
  rotate_left
  · intro w hSw; (try dsimp only at hSw); go_simp; (try with_reducible rfl)
  refine wpHd_take (i := 4) (v := ?_) (by kernel_rfl) rfl (by kernel_rfl) (fun _ _ _ h => h) (.inl ⟨by rfl, ?_⟩) hSS ?_
  rotate_left
  · intro w hSw; (try dsimp only at hSw); go_simp; (try with_reducible rfl)
  try simp only [Act.put, List.getElem_toArray, List.getElem_cons_succ, List.getElem_cons_zero, List.setIfInBounds_toArray, List.set_cons_zero, List.set_cons_succ]
  refine wpHd_take (i := 5) (v := ?_) (by kernel_rfl) rfl (by kernel_rfl) (fun _ _ _ h => h) (.inl ⟨by rfl, ?_⟩) hSS ?_
  rotate_left
  · intro w hSw; (try dsimp only at hSw); go_simp; (try with_reducible rfl)
  refine wpHd_take (i := 6) (v := ?_) (by kernel_rfl) rfl (by kernel_rfl) (fun _ _ _ h => h) (.inl ⟨by rfl, ?_⟩) hSS ?_
  rotate_left
  · intro w hSw; (try dsimp only at hSw); go_simp; (try with_reducible rfl)
  refine wpHd_take (i := 7) (v := ?_) (by kernel_rfl) rfl (by kernel_rfl) (fun _ _ _ h => h) (.inl ⟨by rfl, ?_⟩) hSS ?_
  rotate_left
  · intro w hSw; (try dsimp only at hSw); go_simp; (try with_reducible rfl)
  refine wpHd_take (i := 8) (v := ?_) (by kernel_rfl) rfl (by kernel_rfl) (fun _ _ _ h => h) (.inl ⟨by rfl, ?_⟩) hSS ?_
  rotate_left
  · intro w hSw; (try dsimp only at hSw); go_simp; (try with_reducible rfl)
  refine wpHd_take (i := 9) (v := ?_) (by kernel_rfl) rfl (by kernel_rfl) (fun _ _ _ h => h) (.inl ⟨by rfl, ?_⟩) hSS ?_
  rotate_left
  · intro w hSw; (try dsimp only at hSw); go_simp; (try with_reducible rfl)
  try simp only [Act.put, List.getElem_toArray, List.getElem_cons_succ, List.getElem_cons_zero, List.setIfInBounds_toArray, List.set_cons_zero, List.set_cons_succ]
  refine wpHd_take (i := 10) (v := ?_) (by kernel_rfl) rfl (by kernel_rfl) (fun _ _ _ h => h) (.inl ⟨by rfl, ?_⟩) hSS ?_
  rotate_left
  · intro w hSw; (try dsimp only at hSw); go_simp; (try with_reducible rfl)
  refine wpHd_take (i := 11) (v := ?_) (by kernel_rfl) rfl (by kernel_rfl) (fun _ _ _ h => h) (.inl ⟨by rfl, ?_⟩) hSS ?_
  rotate_left
  · intro w hSw; (try dsimp only at hSw); go_simp; (try with_reducible rfl)
  refine wpHd_take (i := 12) (v := ?_) (by kernel_rfl) rfl (by kernel_rfl) (fun _ _ _ h => h) (.inl ⟨by rfl, ?_⟩) hSS ?_
  rotate_left
  · intro w hSw; (try dsimp only at hSw); go_simp; (try with_reducible rfl)
  refine wpHd_take (i := 13) (v := ?_) (by kernel_rfl) rfl (by kernel_rfl) (fun _ _ _ h => h) (.inl ⟨by rfl, ?_⟩) hSS ?_
  rotate_left
  · intro w hSw; (try dsimp only at hSw); go_simp; (try with_reducible rfl)
  try simp only [Act.put, List.getElem_toArray, List.getElem_cons_succ, List.getElem_cons_zero, List.setIfInBounds_toArray, List.set_cons_zero, List.set_cons_succ]
  refine wpHd_one (i := 14) rfl (by kernel_rfl) (fun Kc hK => ?_)
  go_simp
  refine (without_any b W3.drew ((HRA4.out.q r HR.out).only ((Only.refl Non W3).drew) fun _ _ => id) HLN.out).mono ?_
  rintro e W4 ⟨vn, rfl, hon, hnn⟩
  obtain ⟨An, nn, cn, rfl⟩ : ∃ A n c, vn = Value.slice A n c := by obtain ⟨A, c, e, _⟩ := hon.shape; exact ⟨A, _, c, e⟩
  have HVN := Lib.hid hon
  have HNN := Lib.hid ((Only.refl Non W3).drew.trans hnn)
  have k1 := hnn.cell hSS.1 id
  have k2 := hnn.cell hSS.2.1 id
  have k3 := hnn.cell hSS.2.2 id
  clear hon hnn
  refine hK.out _ _ ?_ (fun hSS => ?_)
  · exact ⟨by assumption, by assumption, by assumption⟩
  clear hK
  try simp only [Act.put, List.getElem_toArray, List.getElem_cons_succ, List.getElem_cons_zero, List.setIfInBounds_toArray, List.set_cons_zero, List.set_cons_succ]
  refine wpHd_end (by kernel_rfl) ?_
  have hfz : W4.frozen? ⟨lg, r, none⟩ = false := by
    obtain ⟨cs, hb⟩ := (HRA4.out.keep HNN.out).row.box (k := lg) (by rw [HLV.out]; exact ownB_slice.2 rfl)
    exact hb.free r
  clear hSS k3
  go_upto_region 8 with fail
  have hoS : Only (ownB j.lv) W3 (W4.setCell ⟨lg, r, none⟩ (.slice An nn cn)) := (((Only.refl (ownB j.lv) W3).transN HNN.out).setCell (p := ⟨lg, r, none⟩) (.inl (by rw [HLV.out]; exact ownB_slice.2 rfl)) _)
  have hown : OwnInts 3 W4 j.B (.slice An nn cn) ((S r).erase b) := by
    have h1 := HVN.out.low HRA4.out.bs
    rw [erase_filter (HI.out.nodup r)] at h1
    exact h1
  have HRA5 := Lib.hid ((HRA4.out.keep HNN.out).setq HR.out (g := lg) (by rw [HLV.out]; exact ownB_slice.2 rfl) hown)
  have HE5 := Lib.hid (hoS.box HE3.out (fun hk => by have h9 := HRA4.out.ltr _ hk; have := HJB.out; have := HAB.out; have := HRB.out; have := HEB.out; omega))
  have HR5 := Lib.hid (hoS.box HR3.out (fun hk => by have h9 := HRA4.out.ltr _ hk; have := HJB.out; have := HAB.out; have := HRB.out; have := HEB.out; omega))
  have HA5 := Lib.hid (hoS.box HA4.out (fun hk => by have h9 := HRA4.out.ltr _ hk; have := HJB.out; have := HAB.out; have := HRB.out; have := HEB.out; omega))
  have HO5 := Lib.hid ((HO4.out.mono fun _ hb => hb.elim).trans hoS)
  change Code.wp _ _ _ _ (W4.setCell ⟨lg, r, none⟩ (.slice An nn cn))
  clear k1 k2 hfz hoS hown HRA4 HE3 HR3 HA4 HO4 HVN HNN
  generalize W4.setCell ⟨lg, r, none⟩ (.slice An nn cn) = W5 at *
  generalize updN qv r (.slice An nn cn) = qv' at *
  generalize hS5 : updN S r ((S r).erase b) = S5 at *
  have HS5 := Lib.hid (show S5 = remS S b from hS5 ▸ funext fun i => (by rw [HRR.out]; exact rem_cg HI.out b i))
  clear hS5
  have HLN5 := Lib.hid (show (S5 r).length ≤ 10000 by
    have h1 := HLN.out
    have h2 : ((S r).erase b).length ≤ (S r).length := List.length_erase_le
    rw [HS5.out]
    show ((S r).erase b).length ≤ 10000
    omega)
  have y0 : W5.cell? ⟨ab, 0, none⟩ = some (.int .i64 0) := HA5.out.cellAt rfl
  go_upto_region 9 with fail
  have k1 : W5.drew.cell? ⟨j.pb, 3, none⟩ = some (.slice (some ⟨lg, 0, none⟩) l.length lc) := HRA5.out.c3.trans (by rw [HLV.out])
  have k2 : W5.drew.cell? ⟨lg, r, none⟩ = some (qv' r) := by
    obtain ⟨g, c, e, h1, _⟩ := HRA5.out.cq HR.out
    rw [HLV.out] at e
    injection e with e e2; injection e with e; injection e with e
    rw [e]; exact h1
  have k3 : W5.drew.cell? ⟨ab, 1, none⟩ = some (.int .i64 b) := HA5.out.cellAt rfl
  refine wp_region_tail (S := (fun w' : World => w'.cell? ⟨j.pb, 3, none⟩ = some (.slice (some ⟨lg, 0, none⟩) l.length lc) ∧ w'.cell? ⟨lg, r, none⟩ = some (qv' r) ∧ w'.cell? ⟨ab, 1, none⟩ = some (.int .i64 b))) 15 (by kernel_rfl) (by kernel_rfl) ?_ ?_
  · exact ⟨by assumption, by assumption, by assumption⟩
  intro hSS
  refine wpHd_take (i := 0) (v := ?_) (by kernel_rfl) rfl (by kernel_rfl) (fun _ _ _ h => h) (.inl ⟨by rfl, ?_⟩) hSS ?_
  rotate_left
  · intro w hSw; (try dsimp only at hSw); go_simp; (try with_reducible rfl)
  refine wpHd_take (i := 1) (v := ?_) (by kernel_rfl) rfl (by kernel_rfl) (fun _ _ _ h => h) (.inl ⟨by rfl, ?_⟩) hSS ?_
  rotate_left
  · intro w hSw; (try dsimp only at hSw); go_simp; (try with_reducible rfl)
  refine wpHd_take (i := 2) (v := ?_) (by kernel_rfl) rfl (by kernel_rfl) (fun _ _ _ h => h) (.inl ⟨by rfl, ?_⟩) hSS ?_
  rotate_left
  · intro w hSw; (try dsimp only at hSw); go_simp; (try with_reducible rfl)
  refine wpHd_take (i := 3) (v := ?_) (by kernel_rfl) rfl (by kernel_rfl) (fun _ _ _ h => h) (.inl ⟨by rfl, ?_⟩) hSS ?_
  rotate_left
  · intro w hSw; (try dsimp only at hSw); go_simp; (try with_reducible rfl)
  refine wpHd_take (i := 4) (v := ?_) (by kernel_rfl) rfl (by kernel_rfl) (fun _ _ _ h => h) (.inl ⟨by rfl, ?_⟩) hSS ?_
  rotate_left
  · intro w hSw; (try dsimp only at hSw); go_simp; (try with_reducible rfl)
  try simp only [Act.put, List.getElem_toArray, List.getElem_cons_succ, List.getElem_cons_zero, List.setIfInBounds_toArray, List.set_cons_zero, List.set_cons_succ]
  refine wpHd_take (i := 5) (v := ?_) (by kernel_rfl) rfl (by kernel_rfl) (fun _ _ _ h => h) (.inl ⟨by rfl, ?_⟩) hSS ?_
  rotate_left
  · intro w hSw; (try dsimp only at hSw); go_simp; (try with_reducible rfl)
  refine wpHd_take (i := 6) (v := ?_) (by kernel_rfl) rfl (by kernel_rfl) (fun _ _ _ h => h) (.inl ⟨by rfl, ?_⟩) hSS ?_
  rotate_left
  · intro w hSw; (try dsimp only at hSw); go_simp; (try with_reducible rfl)
  refine wpHd_take (i := 7) (v := ?_) (by kernel_rfl) rfl (by kernel_rfl) (fun _ _ _ h => h) (.inl ⟨by rfl, ?_⟩) hSS ?_
  rotate_left
  · intro w hSw; (try dsimp only at hSw); go_simp; (try with_reducible rfl)
  refine wpHd_take (i := 8) (v := ?_) (by kernel_rfl) rfl (by kernel_rfl) (fun _ _ _ h => h) (.inl ⟨by rfl, ?_⟩) hSS ?_
  rotate_left
  · intro w hSw; (try dsimp only at hSw); go_simp; (try with_reducible rfl)
  refine wpHd_take (i := 9) (v := ?_) (by kernel_rfl) rfl (by kernel_rfl) (fun _ _ _ h => h) (.inl ⟨by rfl, ?_⟩) hSS ?_
  rotate_left
  · intro w hSw; (try dsimp only at hSw); go_simp; (try with_reducible rfl)
  try simp only [Act.put, List.getElem_toArray, List.getElem_cons_succ, List.getElem_cons_zero, List.setIfInBounds_toArray, List.set_cons_zero, List.set_cons_succ]
  refine wpHd_take (i := 10) (v := ?_) (by kernel_rfl) rfl (by kernel_rfl) (fun _ _ _ h => h) (.inl ⟨by rfl, ?_⟩) hSS ?_
  rotate_left
  · intro w hSw; (try dsimp only at hSw); go_simp; (try with_reducible rfl)
  refine wpHd_take (i := 11) (v := ?_) (by kernel_rfl) rfl (by kernel_rfl) (fun _ _ _ h => h) (.inl ⟨by rfl, ?_⟩) hSS ?_
  rotate_left
  · intro w hSw; (try dsimp only at hSw); go_simp; (try with_reducible rfl)
  refine wpHd_take (i := 12) (v := ?_) (by kernel_rfl) rfl (by kernel_rfl) (fun _ _ _ h => h) (.inl ⟨by rfl, ?_⟩) hSS ?_
  rotate_left
  · intro w hSw; (try dsimp only at hSw); go_simp; (try with_reducible rfl)
  refine wpHd_take (i := 13) (v := ?_) (by kernel_rfl) rfl (by kernel_rfl) (fun _ _ _ h => h) (.inl ⟨by rfl, ?_⟩) hSS ?_
  rotate_left
  · intro w hSw; (try dsimp only at hSw); go_simp; (try with_reducible rfl)
  try simp only [Act.put, List.getElem_toArray, List.getElem_cons_succ, List.getElem_cons_zero, List.setIfInBounds_toArray, List.set_cons_zero, List.set_cons_succ]
  refine wpHd_one (i := 14) rfl (by kernel_rfl) (fun Kc hK => ?_)
  go_simp
  refine (ahead_any b W5.drew ((HRA5.out.q r HR.out).only ((Only.refl Non W5).drew) fun _ _ => id) HLN5.out).mono ?_
  rintro e W6 ⟨vn, rfl, hon, hnn⟩
  obtain ⟨An, nn, cn, rfl⟩ : ∃ A n c, vn = Value.slice A n c := by obtain ⟨A, c, e, _⟩ := hon.shape; exact ⟨A, _, c, e⟩
  have HVN := Lib.hid hon
  have HNN := Lib.hid ((Only.refl Non W5).drew.trans hnn)
  have k1 := hnn.cell hSS.1 id
  have k2 := hnn.cell hSS.2.1 id
  have k3 := hnn.cell hSS.2.2 id
  clear hon hnn
  refine hK.out _ _ ?_ (fun hSS => ?_)
  · exact ⟨by assumption, by assumption, by assumption⟩
  clear hK
  try simp only [Act.put, List.getElem_toArray, List.getElem_cons_succ, List.getElem_cons_zero, List.setIfInBounds_toArray, List.set_cons_zero, List.set_cons_succ]
  refine wpHd_end (by kernel_rfl) ?_
  have hfz : W6.frozen? ⟨lg, r, none⟩ = false := by
    obtain ⟨cs, hb⟩ := (HRA5.out.keep HNN.out).row.box (k := lg) (by rw [HLV.out]; exact ownB_slice.2 rfl)
    exact hb.free r
  clear hSS k3
  go_upto_region 10 with fail
  have hoS : Only (ownB j.lv) W5 (W6.setCell ⟨lg, r, none⟩ (.slice An nn cn)) := (((Only.refl (ownB j.lv) W5).transN HNN.out).setCell (p := ⟨lg, r, none⟩) (.inl (by rw [HLV.out]; exact ownB_slice.2 rfl)) _)
  have hown : OwnInts 3 W6 j.B (.slice An nn cn) (b :: S5 r) := by
    have h1 := HVN.out.low HRA5.out.bs
    exact h1
  have HRA7 := Lib.hid ((HRA5.out.keep HNN.out).setq HR.out (g := lg) (by rw [HLV.out]; exact ownB_slice.2 rfl) hown)
  have HE7 := Lib.hid (hoS.box HE5.out (fun hk => by have h9 := HRA5.out.ltr _ hk; have := HJB.out; have := HAB.out; have := HRB.out; have := HEB.out; omega))
  have HR7 := Lib.hid (hoS.box HR5.out (fun hk => by have h9 := HRA5.out.ltr _ hk; have := HJB.out; have := HAB.out; have := HRB.out; have := HEB.out; omega))
  have HO7 := Lib.hid (HO5.out.trans hoS)
  change Code.wp _ _ _ _ (W6.setCell ⟨lg, r, none⟩ (.slice An nn cn))
  clear k1 k2 hfz hoS hown HRA5 HE5 HR5 HO5 HVN HNN
  generalize W6.setCell ⟨lg, r, none⟩ (.slice An nn cn) = W7 at *
  generalize updN qv' r (.slice An nn cn) = qv'' at *
  go_wp2_with (first | (refine wpList_load_row rfl 252 _ rfl eb rfl 252 (wzC 0 false true) (0, 0) _ HE7.out Tryz.underlying252 rfl (by kernel_rfl) ?_) | (refine wpList_store_row rfl 252 _ _ rfl rb (wzC 0 false true) rfl rfl 252 _ HR7.out (by kernel_rfl) rfl (wzC_one _ _ _) ?_))
  (try simp only [Exit.inBlock, Exit.then])
  refine bodyPost_ret (results_cell_row rfl _ _ rb _ (wzC 0 false true) (0, 0) _ rfl (HR7.out.setRow' _) Tryz.underlying252 rfl (by kernel_rfl)) rfl ?_
  have hos : Only (Just rb) W7 (W7.setRow rb (wzC 0 false true)) := (Only.refl (Just rb) W7).setRow' (.inl rfl) _
  exact ⟨rfl, ⟨_, (HRA7.out.congr fun i _ => by rw [← HRR.out, HS5.out]; rfl).offT HR7.out (by have := HJB.out; have := HRB.out; omega) hos⟩, HO7.out.setRow' (.inr (by have := HRB.out; omega)) _⟩
theorem rpt_in1 (h : Rpt j l O S w) (hI : PrtI1 l O j.t S) (hP : hintsP blocks l) (hbb : 0 ≤ b ∧ b < 64) (hb : b ∈ S (rngI l b)) (hpt : 0 < partV l O b j.t) (hl16 : (S (rngI l b)).length ≤ 64) :
    Calls Tryz.prog 219 #[.pointer (some ⟨j.pb, 0, none⟩), .agg #[.int .i64 1, .int .i64 b]] w (RpDo j l O (frontS (remS S b) (rngI l b) b) 0 false true w) := by
  have hr := (hI.at_ hb).2.1
  have HWB := Lib.hid (show decide (b ∈ S (rngI l b)) = true from decide_eq_true hb)
  have HL16 := Lib.hid hl16
  clear hb hl16
  have hpv : (partV l O b j.t == 0) = false := by simp; omega
  have hpv2 : ¬ partV l O b j.t = 0 := by omega
  obtain ⟨qv, hA⟩ := h
  have hn8 := hP.2.2
  have HBB := Lib.hid hbb
  have HPP := Lib.hid hP
  have HI := Lib.hid hI
  have e1 : rngZ l b = rngI l b := by unfold rngZ; rw [if_pos hr]
  have HA1 := Lib.hid (Box.fresh w 255 #[.int .i64 1, .int .i64 b])
  have ho1 : Only Non w (w.alloc (.cells #[.int .i64 1, .int .i64 b] 255)) := (Only.refl Non w).alloc _
  have HO1 := Lib.hid ho1
  have HRA := Lib.hid (hA.keep ho1)
  have HJB := Lib.hid hA.bs
  obtain ⟨r, hrr⟩ : ∃ r, r = rngI l b := ⟨_, rfl⟩
  have HRR := Lib.hid hrr
  have HR := Lib.hid (show r < l.length by rw [hrr]; exact hr)
  have hri : (r : Int) < l.length := by omega
  have hr0 : (0 : Int) ≤ r := by omega
  clear hA ho1 hP hI hr hrr
  go_enter Tryz.func219, Tryz.ntmps219
  go_upto_region 1 with fail
  change Code.wp _ _ _ _ ((w.alloc (.cells #[.int .i64 1, .int .i64 b] 255)).alloc (.cells (wzC 0 false false) 252))
  have hsz : (w.alloc (.cells #[.int .i64 1, .int .i64 b] 255)).heap.size = w.heap.size + 1 := World.size_alloc ..
  generalize w.alloc (.cells #[.int .i64 1, .int .i64 b] 255) = W0 at *
  obtain ⟨ab, hab⟩ : ∃ ab, ab = w.heap.size := ⟨_, rfl⟩
  rw [← hab] at HA1 hsz ⊢
  have HAB := Lib.hid (show w.heap.size ≤ ab from Nat.le_of_eq hab.symm)
  clear hab
  have HR1 := Lib.hid (Box.fresh W0 252 (wzC 0 false false))
  have ho1 : Only Non W0 (W0.alloc (.cells (wzC 0 false false) 252)) := (Only.refl Non W0).alloc _
  have HA2 := Lib.hid (ho1.box HA1.out id)
  have HO2 := Lib.hid (HO1.out.trans ho1)
  have HRB := Lib.hid (show w.heap.size ≤ W0.heap.size from HO1.out.size)
  have HRA2 := Lib.hid (HRA.out.keep ho1)
  clear ho1 HA1 HO1 HRA
  generalize W0.alloc (.cells (wzC 0 false false) 252) = W1 at *
  rw [hsz] at HR1 HRB
  clear hsz
  generalize ab + 1 = rb at *
  have HHS := Lib.hid (rpt_has (b := b) ⟨qv, HRA2.out⟩ HI.out HPP.out HBB.out)
  have HHS : Hid (Calls Tryz.prog 264 #[.pointer (some ⟨j.pb, 0, none⟩), .int .i64 b] W1 fun e w' => e = .returned (.bool true) ∧ ∃ m, W1.drewN m = w') := Lib.hid (by have h9 := HHS.out; rw [HWB.out] at h9; exact h9)
  have y0 : W1.cell? ⟨ab, 0, none⟩ = some (.int .i64 1) := HA2.out.cellAt rfl
  have y1 : W1.cell? ⟨ab, 1, none⟩ = some (.int .i64 b) := HA2.out.cellAt rfl
  go_upto_region 2 with (go_at_call 264; refine HHS.out.mono ?_; rintro e Wm ⟨rfl, m, hm⟩; have HNm := Lib.hid (show Only Non W1 Wm from hm ▸ (Only.refl Non W1).drewN m); clear hm)
  change Code.wp _ _ _ _ (Wm.alloc (.cells (wzC 0 false true) 252))
  have ho1 : Only Non W1 (Wm.alloc (.cells (wzC 0 false true) 252)) := HNm.out.alloc _
  have HE2 := Lib.hid (Box.fresh Wm 252 (wzC 0 false true))
  have HR2 := Lib.hid (ho1.box HR1.out id)
  have HA3 := Lib.hid (ho1.box HA2.out id)
  have HO3 := Lib.hid (HO2.out.trans ho1)
  have HRA3 := Lib.hid (HRA2.out.keep ho1)
  have HEB := Lib.hid (show w.heap.size ≤ Wm.heap.size ∧ rb < Wm.heap.size from ⟨Nat.le_trans HO2.out.size HNm.out.size, Nat.lt_of_lt_of_le HR1.out.lt HNm.out.size⟩)
  clear ho1 HHS HR1 HA2 HO2 HRA2 y0 y1 HNm
  generalize Wm.alloc (.cells (wzC 0 false true) 252) = W2 at *
  generalize Wm.heap.size = eb at *
  have HRG := Lib.hid (fun q => rrange_any b (W2.drewN q) (HRA3.out.hin.only ((Only.refl Non W2).drewN q) fun _ _ => id) HPP.out HBB.out)
  rw [e1, ← HRR.out] at HRG
  clear e1
  have x0 : W2.cell? ⟨j.pb, 0, none⟩ = some (.slice j.A l.length j.c) := HRA3.out.c0
  have y1 : W2.cell? ⟨ab, 1, none⟩ = some (.int .i64 b) := HA3.out.cellAt rfl
  go_quiet ((go_at_call 164; exact quiet_d ((HRG.out _).mono fun _ _ ⟨he, m, hm⟩ => ⟨he, m, hm.symm⟩)))
  have HE3 := Lib.hid (show Box (W2.drewN nq) eb 252 (wzC 0 false true) from ((Only.refl Non W2).drewN nq).box HE2.out id)
  have HR3 := Lib.hid (show Box (W2.drewN nq) rb 252 (wzC 0 false false) from ((Only.refl Non W2).drewN nq).box HR2.out id)
  have HA4 := Lib.hid (show Box (W2.drewN nq) ab 255 #[.int .i64 1, .int .i64 b] from ((Only.refl Non W2).drewN nq).box HA3.out id)
  have HO4 := Lib.hid (HO3.out.drewN nq)
  have HRA4 := Lib.hid (HRA3.out.keep ((Only.refl Non W2).drewN nq))
  clear HE2 HR2 HA3 HO3 HRA3 HRG x0 y1
  generalize W2.drewN nq = W3 at *
  have y0 : W3.cell? ⟨ab, 0, none⟩ = some (.int .i64 1) := HA4.out.cellAt rfl
  have y1 : W3.cell? ⟨ab, 1, none⟩ = some (.int .i64 b) := HA4.out.cellAt rfl
  have HLV : Hid (∃ lg lc, j.lv = .slice (some ⟨lg, 0, none⟩) l.length lc) := Lib.hid (by obtain ⟨g, c, e, _⟩ := HRA4.out.cq HR.out; exact ⟨g, c, e⟩)
  obtain ⟨lg, lc, hlv⟩ := HLV.out
  have HLV := Lib.hid hlv
  clear hlv
  have HPT := Lib.hid (rpt_part (b := b) ⟨qv, HRA4.out⟩ HPP.out HBB.out)
  generalize hpvv : partV l O b j.t = pv at *
  have HPVV := Lib.hid hpvv
  clear hpvv
  go_upto_region 6 with (go_at_call 102; refine HPT.out.mono ?_; rintro e Wp ⟨rfl, m, hm⟩; have HNp := Lib.hid (show Only Non W3 Wp from hm ▸ (Only.refl Non W3).drewN m); clear hm)
  have HE3p := Lib.hid (HNp.out.box HE3.out id)
  have HR3p := Lib.hid (HNp.out.box HR3.out id)
  have HA4p := Lib.hid (HNp.out.box HA4.out id)
  have HO4p := Lib.hid (HO4.out.trans HNp.out)
  have HRA4p := Lib.hid (HRA4.out.keep HNp.out)
  clear y0 y1 HPT HE3 HR3 HA4 HO4 HRA4 HNp
  have y0 : Wp.cell? ⟨ab, 0, none⟩ = some (.int .i64 1) := HA4p.out.cellAt rfl
  have y1 : Wp.cell? ⟨ab, 1, none⟩ = some (.int .i64 b) := HA4p.out.cellAt rfl
  have z3 : Wp.cell? ⟨eb, 3, none⟩ = some (.bool true) := HE3p.out.cellAt rfl
  have HLN := Lib.hid (show (S r).length ≤ 10000 by have := HL16.out; rw [← HRR.out] at this; omega)
  go_upto_region 7 with fail
  have k1 : Wp.drew.cell? ⟨j.pb, 3, none⟩ = some (.slice (some ⟨lg, 0, none⟩) l.length lc) := HRA4p.out.c3.trans (by rw [HLV.out])
  have k2 : Wp.drew.cell? ⟨lg, r, none⟩ = some (qv r) := by
    obtain ⟨g, c, e, h1, _⟩ := HRA4p.out.cq HR.out
    rw [HLV.out] at e
    injection e with e e2; injection e with e; injection e with e
    rw [e]; exact h1
  have k3 : Wp.drew.cell? ⟨ab, 1, none⟩ = some (.int .i64 b) := HA4p.out.cellAt rfl
  refine wp_region_tail (S := (fun w' : World => w'.cell? ⟨j.pb, 3, none⟩ = some (.slice (some ⟨lg, 0, none⟩) l.length lc) ∧ w'.cell? ⟨lg, r, none⟩ = some (qv r) ∧ w'.cell? ⟨ab, 1, none⟩ = some (.int .i64 b))) 15 (by kernel_rfl) (by kernel_rfl) ?_ ?_
  · exact ⟨by assumption, by assumption, by assumption⟩
  intro hSS
  refine wpHd_take (i := 0) (v := ?_) (by kernel_rfl) rfl (by kernel_rfl) (fun _ _ _ h => h) (.inl ⟨by rfl, ?_⟩) hSS ?_
  rotate_left
  · intro w hSw; (try dsimp only at hSw); go_simp; (try with_reducible rfl)
  refine wpHd_take (i := 1) (v := ?_) (by kernel_rfl) rfl (by kernel_rfl) (fun _ _ _ h => h) (.inl ⟨by rfl, ?_⟩) hSS ?_
  rotate_left
  · intro w hSw; (try dsimp only at hSw); go_simp; (try with_reducible rfl)
  refine wpHd_take (i := 2) (v := ?_) (by kernel_rfl) rfl (by kernel_rfl) (fun _ _ _ h => h) (.inl ⟨by rfl, ?_⟩) hSS ?_
  rotate_left
  · intro w hSw; (try dsimp only at hSw); go_simp; (try with_reducible rfl)
  refine wpHd_take (i := 3) (v := ?_) (by kernel_rfl) rfl (by kernel_rfl) (fun _ _ _ h => h) (.inl ⟨by rfl, ?_⟩) hSS ?_
  rotate_left
  · intro w hSw; (try dsimp only at hSw); go_simp; (try with_reducible rfl)
  refine wpHd_take (i := 4) (v := ?_) (by kernel_rfl) rfl (by kernel_rfl) (fun _ _ _ h => h) (.inl ⟨by rfl, ?_⟩) hSS ?_
  rotate_left
  · intro w hSw; (try dsimp only at hSw); go_simp; (try with_reducible rfl)
  try simp only [Act.put, List.getElem_toArray, List.getElem_cons_succ, List.getElem_cons_zero, List.setIfInBounds_toArray, List.set_cons_zero, List.set_cons_succ]
  refine wpHd_take (i := 5) (v := ?_) (by kernel_rfl) rfl (by kernel_rfl) (fun _ _ _ h => h) (.inl ⟨by rfl, ?_⟩) hSS ?_
  rotate_left
  · intro w hSw; (try dsimp only at hSw); go_simp; (try with_reducible rfl)
  refine wpHd_take (i := 6) (v := ?_) (by kernel_rfl) rfl (by kernel_rfl) (fun _ _ _ h => h) (.inl ⟨by rfl, ?_⟩) hSS ?_
  rotate_left
  · intro w hSw; (try dsimp only at hSw); go_simp; (try with_reducible rfl)
  refine wpHd_take (i := 7) (v := ?_) (by kernel_rfl) rfl (by kernel_rfl) (fun _ _ _ h => h) (.inl ⟨by rfl, ?_⟩) hSS ?_
  rotate_left
  · intro w hSw; (try dsimp only at hSw); go_simp; (try with_reducible rfl)
  refine wpHd_take (i := 8) (v := ?_) (by kernel_rfl) rfl (by kernel_rfl) (fun _ _ _ h => h) (.inl ⟨by rfl, ?_⟩) hSS ?_
  rotate_left
  · intro w hSw; (try dsimp only at hSw); go_simp; (try with_reducible rfl)
  refine wpHd_take (i := 9) (v := ?_) (by kernel_rfl) rfl (by kernel_rfl) (fun _ _ _ h => h) (.inl ⟨by rfl, ?_⟩) hSS ?_
  rotate_left
  · intro w hSw; (try dsimp only at hSw); go_simp; (try with_reducible rfl)
  try simp only [Act.put, List.getElem_toArray, List.getElem_cons_succ, List.getElem_cons_zero, List.setIfInBounds_toArray, List.set_cons_zero, List.set_cons_succ]
  refine wpHd_take (i := 10) (v := ?_) (by kernel_rfl) rfl (by kernel_rfl) (fun _ _ _ h => h) (.inl ⟨by rfl, ?_⟩) hSS ?_
  rotate_left
  · intro w hSw; (try dsimp only at hSw); go_simp; (try with_reducible rfl)
  refine wpHd_take (i := 11) (v := ?_) (by kernel_rfl) rfl (by kernel_rfl) (fun _ _ _ h => h) (.inl ⟨by rfl, ?_⟩) hSS ?_
  rotate_left
  · intro w hSw; (try dsimp only at hSw); go_simp; (try with_reducible rfl)
  refine wpHd_take (i := 12) (v := ?_) (by kernel_rfl) rfl (by kernel_rfl) (fun _ _ _ h => h) (.inl ⟨by rfl, ?_⟩) hSS ?_
  rotate_left
  · intro w hSw; (try dsimp only at hSw); go_simp; (try with_reducible rfl)
  refine wpHd_take (i := 13) (v := ?_) (by kernel_rfl) rfl (by kernel_rfl) (fun _ _ _ h => h) (.inl ⟨by rfl, ?_⟩) hSS ?_
  rotate_left
  · intro w hSw; (try dsimp only at hSw); go_simp; (try with_reducible rfl)
  try simp only [Act.put, List.getElem_toArray, List.getElem_cons_succ, List.getElem_cons_zero, List.setIfInBounds_toArray, List.set_cons_zero, List.set_cons_succ]
  refine wpHd_one (i := 14) rfl (by kernel_rfl) (fun Kc hK => ?_)
  go_simp
  refine (without_any b Wp.drew ((HRA4p.out.q r HR.out).only ((Only.refl Non Wp).drew) fun _ _ => id) HLN.out).mono ?_
  rintro e W4 ⟨vn, rfl, hon, hnn⟩
  obtain ⟨An, nn, cn, rfl⟩ : ∃ A n c, vn = Value.slice A n c := by obtain ⟨A, c, e, _⟩ := hon.shape; exact ⟨A, _, c, e⟩
  have HVN := Lib.hid hon
  have HNN := Lib.hid ((Only.refl Non Wp).drew.trans hnn)
  have k1 := hnn.cell hSS.1 id
  have k2 := hnn.cell hSS.2.1 id
  have k3 := hnn.cell hSS.2.2 id
  clear hon hnn
  refine hK.out _ _ ?_ (fun hSS => ?_)
  · exact ⟨by assumption, by assumption, by assumption⟩
  clear hK
  try simp only [Act.put, List.getElem_toArray, List.getElem_cons_succ, List.getElem_cons_zero, List.setIfInBounds_toArray, List.set_cons_zero, List.set_cons_succ]
  refine wpHd_end (by kernel_rfl) ?_
  have hfz : W4.frozen? ⟨lg, r, none⟩ = false := by
    obtain ⟨cs, hb⟩ := (HRA4p.out.keep HNN.out).row.box (k := lg) (by rw [HLV.out]; exact ownB_slice.2 rfl)
    exact hb.free r
  clear hSS k3
  go_upto_region 8 with fail
  have hoS : Only (ownB j.lv) Wp (W4.setCell ⟨lg, r, none⟩ (.slice An nn cn)) := (((Only.refl (ownB j.lv) Wp).transN HNN.out).setCell (p := ⟨lg, r, none⟩) (.inl (by rw [HLV.out]; exact ownB_slice.2 rfl)) _)
  have hown : OwnInts 3 W4 j.B (.slice An nn cn) ((S r).erase b) := by
    have h1 := HVN.out.low HRA4p.out.bs
    rw [erase_filter (HI.out.nodup r)] at h1
    exact h1
  have HRA5 := Lib.hid ((HRA4p.out.keep HNN.out).setq HR.out (g := lg) (by rw [HLV.out]; exact ownB_slice.2 rfl) hown)
  have HE5 := Lib.hid (hoS.box HE3p.out (fun hk => by have h9 := HRA4p.out.ltr _ hk; have := HJB.out; have := HAB.out; have := HRB.out; have := HEB.out; omega))
  have HR5 := Lib.hid (hoS.box HR3p.out (fun hk => by have h9 := HRA4p.out.ltr _ hk; have := HJB.out; have := HAB.out; have := HRB.out; have := HEB.out; omega))
  have HA5 := Lib.hid (hoS.box HA4p.out (fun hk => by have h9 := HRA4p.out.ltr _ hk; have := HJB.out; have := HAB.out; have := HRB.out; have := HEB.out; omega))
  have HO5 := Lib.hid ((HO4p.out.mono fun _ hb => hb.elim).trans hoS)
  change Code.wp _ _ _ _ (W4.setCell ⟨lg, r, none⟩ (.slice An nn cn))
  clear k1 k2 hfz hoS hown HRA4p HE3p HR3p HA4p HO4p HVN HNN
  generalize W4.setCell ⟨lg, r, none⟩ (.slice An nn cn) = W5 at *
  generalize updN qv r (.slice An nn cn) = qv' at *
  generalize hS5 : updN S r ((S r).erase b) = S5 at *
  have HS5 := Lib.hid (show S5 = remS S b from hS5 ▸ funext fun i => (by rw [HRR.out]; exact rem_cg HI.out b i))
  clear hS5
  have HLN5 := Lib.hid (show (S5 r).length ≤ 10000 by
    have h1 := HLN.out
    have h2 : ((S r).erase b).length ≤ (S r).length := List.length_erase_le
    rw [HS5.out]
    show ((S r).erase b).length ≤ 10000
    omega)
  have y0 : W5.cell? ⟨ab, 0, none⟩ = some (.int .i64 1) := HA5.out.cellAt rfl
  go_upto_region 9 with fail
  have k1 : W5.drew.cell? ⟨j.pb, 3, none⟩ = some (.slice (some ⟨lg, 0, none⟩) l.length lc) := HRA5.out.c3.trans (by rw [HLV.out])
  have k2 : W5.drew.cell? ⟨lg, r, none⟩ = some (qv' r) := by
    obtain ⟨g, c, e, h1, _⟩ := HRA5.out.cq HR.out
    rw [HLV.out] at e
    injection e with e e2; injection e with e; injection e with e
    rw [e]; exact h1
  have k3 : W5.drew.cell? ⟨ab, 1, none⟩ = some (.int .i64 b) := HA5.out.cellAt rfl
  refine wp_region_tail (S := (fun w' : World => w'.cell? ⟨j.pb, 3, none⟩ = some (.slice (some ⟨lg, 0, none⟩) l.length lc) ∧ w'.cell? ⟨lg, r, none⟩ = some (qv' r) ∧ w'.cell? ⟨ab, 1, none⟩ = some (.int .i64 b))) 15 (by kernel_rfl) (by kernel_rfl) ?_ ?_
  · exact ⟨by assumption, by assumption, by assumption⟩
  intro hSS
  refine wpHd_take (i := 0) (v := ?_) (by kernel_rfl) rfl (by kernel_rfl) (fun _ _ _ h => h) (.inl ⟨by rfl, ?_⟩) hSS ?_
  rotate_left
  · intro w hSw; (try dsimp only at hSw); go_simp; (try with_reducible rfl)
  refine wpHd_take (i := 1) (v := ?_) (by kernel_rfl) rfl (by kernel_rfl) (fun _ _ _ h => h) (.inl ⟨by rfl, ?_⟩) hSS ?_
  rotate_left
  · intro w hSw; (try dsimp only at hSw); go_simp; (try with_reducible rfl)
  refine wpHd_take (i := 2) (v := ?_) (by kernel_rfl) rfl (by kernel_rfl) (fun _ _ _ h => h) (.inl ⟨by rfl, ?_⟩) hSS ?_
  rotate_left
  · intro w hSw; (try dsimp only at hSw); go_simp; (try with_reducible rfl)
  refine wpHd_take (i := 3) (v := ?_) (by kernel_rfl) rfl (by kernel_rfl) (fun _ _ _ h => h) (.inl ⟨by rfl, ?_⟩) hSS ?_
  rotate_left
  · intro w hSw; (try dsimp only at hSw); go_simp; (try with_reducible rfl)
  refine wpHd_take (i := 4) (v := ?_) (by kernel_rfl) rfl (by kernel_rfl) (fun _ _ _ h => h) (.inl ⟨by rfl, ?_⟩) hSS ?_
  rotate_left
  · intro w hSw; (try dsimp only at hSw); go_simp; (try with_reducible rfl)
  try simp only [Act.put, List.getElem_toArray, List.getElem_cons_succ, List.getElem_cons_zero, List.setIfInBounds_toArray, List.set_cons_zero, List.set_cons_succ]
  refine wpHd_take (i := 5) (v := ?_) (by kernel_rfl) rfl (by kernel_rfl) (fun _ _ _ h => h) (.inl ⟨by rfl, ?_⟩) hSS ?_
  rotate_left
  · intro w hSw; (try dsimp only at hSw); go_simp; (try with_reducible rfl)
  refine wpHd_take (i := 6) (v := ?_) (by kernel_rfl) rfl (by kernel_rfl) (fun _ _ _ h => h) (.inl ⟨by rfl, ?_⟩) hSS ?_
  rotate_left
  · intro w hSw; (try dsimp only at hSw); go_simp; (try with_reducible rfl)
  refine wpHd_take (i := 7) (v := ?_) (by kernel_rfl) rfl (by kernel_rfl) (fun _ _ _ h => h) (.inl ⟨by rfl, ?_⟩) hSS ?_
  rotate_left
  · intro w hSw; (try dsimp only at hSw); go_simp; (try with_reducible rfl)
  refine wpHd_take (i := 8) (v := ?_) (by kernel_rfl) rfl (by kernel_rfl) (fun _ _ _ h => h) (.inl ⟨by rfl, ?_⟩) hSS ?_
  rotate_left
  · intro w hSw; (try dsimp only at hSw); go_simp; (try with_reducible rfl)
  refine wpHd_take (i := 9) (v := ?_) (by kernel_rfl) rfl (by kernel_rfl) (fun _ _ _ h => h) (.inl ⟨by rfl, ?_⟩) hSS ?_
  rotate_left
  · intro w hSw; (try dsimp only at hSw); go_simp; (try with_reducible rfl)
  try simp only [Act.put, List.getElem_toArray, List.getElem_cons_succ, List.getElem_cons_zero, List.setIfInBounds_toArray, List.set_cons_zero, List.set_cons_succ]
  refine wpHd_take (i := 10) (v := ?_) (by kernel_rfl) rfl (by kernel_rfl) (fun _ _ _ h => h) (.inl ⟨by rfl, ?_⟩) hSS ?_
  rotate_left
  · intro w hSw; (try dsimp only at hSw); go_simp; (try with_reducible rfl)
  refine wpHd_take (i := 11) (v := ?_) (by kernel_rfl) rfl (by kernel_rfl) (fun _ _ _ h => h) (.inl ⟨by rfl, ?_⟩) hSS ?_
  rotate_left
  · intro w hSw; (try dsimp only at hSw); go_simp; (try with_reducible rfl)
  refine wpHd_take (i := 12) (v := ?_) (by kernel_rfl) rfl (by kernel_rfl) (fun _ _ _ h => h) (.inl ⟨by rfl, ?_⟩) hSS ?_
  rotate_left
  · intro w hSw; (try dsimp only at hSw); go_simp; (try with_reducible rfl)
  refine wpHd_take (i := 13) (v := ?_) (by kernel_rfl) rfl (by kernel_rfl) (fun _ _ _ h => h) (.inl ⟨by rfl, ?_⟩) hSS ?_
  rotate_left
  · intro w hSw; (try dsimp only at hSw); go_simp; (try with_reducible rfl)
  try simp only [Act.put, List.getElem_toArray, List.getElem_cons_succ, List.getElem_cons_zero, List.setIfInBounds_toArray, List.set_cons_zero, List.set_cons_succ]
  refine wpHd_one (i := 14) rfl (by kernel_rfl) (fun Kc hK => ?_)
  go_simp
  refine (ahead_any b W5.drew ((HRA5.out.q r HR.out).only ((Only.refl Non W5).drew) fun _ _ => id) HLN5.out).mono ?_
  rintro e W6 ⟨vn, rfl, hon, hnn⟩
  obtain ⟨An, nn, cn, rfl⟩ : ∃ A n c, vn = Value.slice A n c := by obtain ⟨A, c, e, _⟩ := hon.shape; exact ⟨A, _, c, e⟩
  have HVN := Lib.hid hon
  have HNN := Lib.hid ((Only.refl Non W5).drew.trans hnn)
  have k1 := hnn.cell hSS.1 id
  have k2 := hnn.cell hSS.2.1 id
  have k3 := hnn.cell hSS.2.2 id
  clear hon hnn
  refine hK.out _ _ ?_ (fun hSS => ?_)
  · exact ⟨by assumption, by assumption, by assumption⟩
  clear hK
  try simp only [Act.put, List.getElem_toArray, List.getElem_cons_succ, List.getElem_cons_zero, List.setIfInBounds_toArray, List.set_cons_zero, List.set_cons_succ]
  refine wpHd_end (by kernel_rfl) ?_
  have hfz : W6.frozen? ⟨lg, r, none⟩ = false := by
    obtain ⟨cs, hb⟩ := (HRA5.out.keep HNN.out).row.box (k := lg) (by rw [HLV.out]; exact ownB_slice.2 rfl)
    exact hb.free r
  clear hSS k3
  go_upto_region 10 with fail
  have hoS : Only (ownB j.lv) W5 (W6.setCell ⟨lg, r, none⟩ (.slice An nn cn)) := (((Only.refl (ownB j.lv) W5).transN HNN.out).setCell (p := ⟨lg, r, none⟩) (.inl (by rw [HLV.out]; exact ownB_slice.2 rfl)) _)
  have hown : OwnInts 3 W6 j.B (.slice An nn cn) (b :: S5 r) := by
    have h1 := HVN.out.low HRA5.out.bs
    exact h1
  have HRA7 := Lib.hid ((HRA5.out.keep HNN.out).setq HR.out (g := lg) (by rw [HLV.out]; exact ownB_slice.2 rfl) hown)
  have HE7 := Lib.hid (hoS.box HE5.out (fun hk => by have h9 := HRA5.out.ltr _ hk; have := HJB.out; have := HAB.out; have := HRB.out; have := HEB.out; omega))
  have HR7 := Lib.hid (hoS.box HR5.out (fun hk => by have h9 := HRA5.out.ltr _ hk; have := HJB.out; have := HAB.out; have := HRB.out; have := HEB.out; omega))
  have HO7 := Lib.hid (HO5.out.trans hoS)
  change Code.wp _ _ _ _ (W6.setCell ⟨lg, r, none⟩ (.slice An nn cn))
  clear k1 k2 hfz hoS hown HRA5 HE5 HR5 HO5 HVN HNN
  generalize W6.setCell ⟨lg, r, none⟩ (.slice An nn cn) = W7 at *
  generalize updN qv' r (.slice An nn cn) = qv'' at *
  go_wp2_with (first | (refine wpList_load_row rfl 252 _ rfl eb rfl 252 (wzC 0 false true) (0, 0) _ HE7.out Tryz.underlying252 rfl (by kernel_rfl) ?_) | (refine wpList_store_row rfl 252 _ _ rfl rb (wzC 0 false true) rfl rfl 252 _ HR7.out (by kernel_rfl) rfl (wzC_one _ _ _) ?_))
  (try simp only [Exit.inBlock, Exit.then])
  refine bodyPost_ret (results_cell_row rfl _ _ rb _ (wzC 0 false true) (0, 0) _ rfl (HR7.out.setRow' _) Tryz.underlying252 rfl (by kernel_rfl)) rfl ?_
  have hos : Only (Just rb) W7 (W7.setRow rb (wzC 0 false true)) := (Only.refl (Just rb) W7).setRow' (.inl rfl) _
  exact ⟨rfl, ⟨_, (HRA7.out.congr fun i _ => by rw [← HRR.out, HS5.out]; rfl).offT HR7.out (by have := HJB.out; have := HRB.out; omega) hos⟩, HO7.out.setRow' (.inr (by have := HRB.out; omega)) _⟩
end
theorem hd_getD {L : List Int} (h : L ≠ []) : L.getD 0 0 = Go.Proofs.YtodephhlhdbeoaaGreat.hd L := by
  cases L with
  | nil => exact absurd rfl h
  | cons a L => rfl
section
set_option maxHeartbeats 4000000
set_option maxRecDepth 100000
variable {j : RpJ} {l : List HintA} {O : Nat → Nat → Int} {S : Nat → List Int} {w : World} {blocks : Int} {b : Int}
theorem rpt_add_room (h : Rpt j l O S w) (hI : PrtI1 l O j.t S) (hP : hintsP blocks l) (hbb : 0 ≤ b ∧ b < 64) (hb : b ∉ S (rngI l b)) (hpt : 0 < partV l O b j.t) (hl16 : (S (rngI l b)).length ≤ 64) (hroom : ((S (rngI l b)).length : Int) < partV l O b j.t) :
    Calls Tryz.prog 219 #[.pointer (some ⟨j.pb, 0, none⟩), .agg #[.int .i64 1, .int .i64 b]] w (RpDo j l O (prtAdd l O j.t S b).1 (prtAdd l O j.t S b).2.1 (prtAdd l O j.t S b).2.2 false w) := by
  have hr := (partV_of hpt).1
  have HWB := Lib.hid (show decide (b ∈ S (rngI l b)) = false from decide_eq_false hb)
  have HL16 := Lib.hid hl16
  have HBN := Lib.hid (show ∀ i, b ∉ S i from fun i h2 => hb (by rw [← (hI.at_ h2).1]; exact h2))
  have hpv : (partV l O b j.t == 0) = false := by simp; omega
  have hpv2 : ¬ partV l O b j.t = 0 := by omega
  have HEQ := Lib.hid (show prtAdd l O j.t S b = (frontS (remS S b) (rngI l b) b, 0, false) by unfold prtAdd; rw [if_neg hb, if_pos hroom])
  clear hb hl16
  obtain ⟨qv, hA⟩ := h
  have hn8 := hP.2.2
  have HBB := Lib.hid hbb
  have HPP := Lib.hid hP
  have HI := Lib.hid hI
  have e1 : rngZ l b = rngI l b := by unfold rngZ; rw [if_pos hr]
  have HA1 := Lib.hid (Box.fresh w 255 #[.int .i64 1, .int .i64 b])
  have ho1 : Only Non w (w.alloc (.cells #[.int .i64 1, .int .i64 b] 255)) := (Only.refl Non w).alloc _
  have HO1 := Lib.hid ho1
  have HRA := Lib.hid (hA.keep ho1)
  have HJB := Lib.hid hA.bs
  obtain ⟨r, hrr⟩ : ∃ r, r = rngI l b := ⟨_, rfl⟩
  have HRR := Lib.hid hrr
  have HR := Lib.hid (show r < l.length by rw [hrr]; exact hr)
  have hri : (r : Int) < l.length := by omega
  have hr0 : (0 : Int) ≤ r := by omega
  clear hA ho1 hP hI hr hrr
  go_enter Tryz.func219, Tryz.ntmps219
  go_upto_region 1 with fail
  change Code.wp _ _ _ _ ((w.alloc (.cells #[.int .i64 1, .int .i64 b] 255)).alloc (.cells (wzC 0 false false) 252))
  have hsz : (w.alloc (.cells #[.int .i64 1, .int .i64 b] 255)).heap.size = w.heap.size + 1 := World.size_alloc ..
  generalize w.alloc (.cells #[.int .i64 1, .int .i64 b] 255) = W0 at *
  obtain ⟨ab, hab⟩ : ∃ ab, ab = w.heap.size := ⟨_, rfl⟩
  rw [← hab] at HA1 hsz ⊢
  have HAB := Lib.hid (show w.heap.size ≤ ab from Nat.le_of_eq hab.symm)
  clear hab
  have HR1 := Lib.hid (Box.fresh W0 252 (wzC 0 false false))
  have ho1 : Only Non W0 (W0.alloc (.cells (wzC 0 false false) 252)) := (Only.refl Non W0).alloc _
  have HA2 := Lib.hid (ho1.box HA1.out id)
  have HO2 := Lib.hid (HO1.out.trans ho1)
  have HRB := Lib.hid (show w.heap.size ≤ W0.heap.size from HO1.out.size)
  have HRA2 := Lib.hid (HRA.out.keep ho1)
  clear ho1 HA1 HO1 HRA
  generalize W0.alloc (.cells (wzC 0 false false) 252) = W1 at *
  rw [hsz] at HR1 HRB
  clear hsz
  generalize ab + 1 = rb at *
  have HHS := Lib.hid (rpt_has (b := b) ⟨qv, HRA2.out⟩ HI.out HPP.out HBB.out)
  have HHS : Hid (Calls Tryz.prog 264 #[.pointer (some ⟨j.pb, 0, none⟩), .int .i64 b] W1 fun e w' => e = .returned (.bool false) ∧ ∃ m, W1.drewN m = w') := Lib.hid (by have h9 := HHS.out; rw [HWB.out] at h9; exact h9)
  have y0 : W1.cell? ⟨ab, 0, none⟩ = some (.int .i64 1) := HA2.out.cellAt rfl
  have y1 : W1.cell? ⟨ab, 1, none⟩ = some (.int .i64 b) := HA2.out.cellAt rfl
  go_upto_region 2 with (go_at_call 264; refine HHS.out.mono ?_; rintro e Wm ⟨rfl, m, hm⟩; have HNm := Lib.hid (show Only Non W1 Wm from hm ▸ (Only.refl Non W1).drewN m); clear hm)
  change Code.wp _ _ _ _ (Wm.alloc (.cells (wzC 0 false false) 252))
  have ho1 : Only Non W1 (Wm.alloc (.cells (wzC 0 false false) 252)) := HNm.out.alloc _
  have HE2 := Lib.hid (Box.fresh Wm 252 (wzC 0 false false))
  have HR2 := Lib.hid (ho1.box HR1.out id)
  have HA3 := Lib.hid (ho1.box HA2.out id)
  have HO3 := Lib.hid (HO2.out.trans ho1)
  have HRA3 := Lib.hid (HRA2.out.keep ho1)
  have HEB := Lib.hid (show w.heap.size ≤ Wm.heap.size ∧ rb < Wm.heap.size from ⟨Nat.le_trans HO2.out.size HNm.out.size, Nat.lt_of_lt_of_le HR1.out.lt HNm.out.size⟩)
  clear ho1 HHS HR1 HA2 HO2 HRA2 y0 y1 HNm
  generalize Wm.alloc (.cells (wzC 0 false false) 252) = W2 at *
  generalize Wm.heap.size = eb at *
  have HRG := Lib.hid (fun q => rrange_any b (W2.drewN q) (HRA3.out.hin.only ((Only.refl Non W2).drewN q) fun _ _ => id) HPP.out HBB.out)
  rw [e1, ← HRR.out] at HRG
  clear e1
  have x0 : W2.cell? ⟨j.pb, 0, none⟩ = some (.slice j.A l.length j.c) := HRA3.out.c0
  have y1 : W2.cell? ⟨ab, 1, none⟩ = some (.int .i64 b) := HA3.out.cellAt rfl
  go_quiet ((go_at_call 164; exact quiet_d ((HRG.out _).mono fun _ _ ⟨he, m, hm⟩ => ⟨he, m, hm.symm⟩)))
  have HE3 := Lib.hid (show Box (W2.drewN nq) eb 252 (wzC 0 false false) from ((Only.refl Non W2).drewN nq).box HE2.out id)
  have HR3 := Lib.hid (show Box (W2.drewN nq) rb 252 (wzC 0 false false) from ((Only.refl Non W2).drewN nq).box HR2.out id)
  have HA4 := Lib.hid (show Box (W2.drewN nq) ab 255 #[.int .i64 1, .int .i64 b] from ((Only.refl Non W2).drewN nq).box HA3.out id)
  have HO4 := Lib.hid (HO3.out.drewN nq)
  have HRA4 := Lib.hid (HRA3.out.keep ((Only.refl Non W2).drewN nq))
  clear HE2 HR2 HA3 HO3 HRA3 HRG x0 y1
  generalize W2.drewN nq = W3 at *
  have y0 : W3.cell? ⟨ab, 0, none⟩ = some (.int .i64 1) := HA4.out.cellAt rfl
  have y1 : W3.cell? ⟨ab, 1, none⟩ = some (.int .i64 b) := HA4.out.cellAt rfl
  have HLV : Hid (∃ lg lc, j.lv = .slice (some ⟨lg, 0, none⟩) l.length lc) := Lib.hid (by obtain ⟨g, c, e, _⟩ := HRA4.out.cq HR.out; exact ⟨g, c, e⟩)
  obtain ⟨lg, lc, hlv⟩ := HLV.out
  have HLV := Lib.hid hlv
  clear hlv
  have HPT := Lib.hid (rpt_part (b := b) ⟨qv, HRA4.out⟩ HPP.out HBB.out)
  generalize hpvv : partV l O b j.t = pv at *
  have HPVV := Lib.hid hpvv
  clear hpvv
  go_upto_region 6 with (go_at_call 102; refine HPT.out.mono ?_; rintro e Wp ⟨rfl, m, hm⟩; have HNp := Lib.hid (show Only Non W3 Wp from hm ▸ (Only.refl Non W3).drewN m); clear hm)
  have HE3p := Lib.hid (HNp.out.box HE3.out id)
  have HR3p := Lib.hid (HNp.out.box HR3.out id)
  have HA4p := Lib.hid (HNp.out.box HA4.out id)
  have HO4p := Lib.hid (HO4.out.trans HNp.out)
  have HRA4p := Lib.hid (HRA4.out.keep HNp.out)
  clear y0 y1 HPT HE3 HR3 HA4 HO4 HRA4 HNp
  have y0 : Wp.cell? ⟨ab, 0, none⟩ = some (.int .i64 1) := HA4p.out.cellAt rfl
  have y1 : Wp.cell? ⟨ab, 1, none⟩ = some (.int .i64 b) := HA4p.out.cellAt rfl
  have z3 : Wp.cell? ⟨eb, 3, none⟩ = some (.bool false) := HE3p.out.cellAt rfl
  have HPT2 := Lib.hid (rpt_part (b := b) ⟨qv, HRA4p.out⟩ HPP.out HBB.out)
  rw [HPVV.out] at HPT2
  have x3 : Wp.cell? ⟨j.pb, 3, none⟩ = some (.slice (some ⟨lg, 0, none⟩) l.length lc) := HRA4p.out.c3.trans (by rw [HLV.out])
  have xq : Wp.cell? ⟨lg, r, none⟩ = some (qv r) := by
    obtain ⟨g, c, e, h1, _⟩ := HRA4p.out.cq HR.out
    rw [HLV.out] at e
    injection e with e e2; injection e with e; injection e with e
    rw [e]; exact h1
  have hownr := HRA4p.out.q r HR.out
  obtain ⟨A, c, eq, hs1, hs2⟩ := hownr.shape
  have hat := hownr.at
  rw [eq] at xq hat
  rw [← HRR.out] at hroom
  have HLN := Lib.hid (show (S r).length ≤ 10000 by have := HL16.out; rw [← HRR.out] at this; omega)
  clear eq hs1 hs2 hownr hat
  go_upto_region 20 with (go_at_call 102; refine HPT2.out.mono ?_; rintro e Wq ⟨rfl, m, hm⟩; have HNq := Lib.hid (show Only Non Wp Wq from hm ▸ (Only.refl Non Wp).drewN m); clear hm)
  have HEq := Lib.hid (HNq.out.box HE3p.out id)
  have HRq := Lib.hid (HNq.out.box HR3p.out id)
  have HAq := Lib.hid (HNq.out.box HA4p.out id)
  have HOq := Lib.hid (show Only (ownB j.lv) w Wq from (HO4p.out.trans HNq.out).mono fun _ hb => hb.elim)
  have HRAq := Lib.hid (HRA4p.out.keep HNq.out)
  clear x3 xq y0 y1 z3 HPT2 HE3p HR3p HA4p HO4p HRA4p HNq
  have k1 : Wq.drew.cell? ⟨j.pb, 3, none⟩ = some (.slice (some ⟨lg, 0, none⟩) l.length lc) := HRAq.out.c3.trans (by rw [HLV.out])
  have k2 : Wq.drew.cell? ⟨lg, r, none⟩ = some (qv r) := by
    obtain ⟨g, c, e, h1, _⟩ := HRAq.out.cq HR.out
    rw [HLV.out] at e
    injection e with e e2; injection e with e; injection e with e
    rw [e]; exact h1
  have k3 : Wq.drew.cell? ⟨ab, 1, none⟩ = some (.int .i64 b) := HAq.out.cellAt rfl
  refine wp_region_tail (S := (fun w' : World => w'.cell? ⟨j.pb, 3, none⟩ = some (.slice (some ⟨lg, 0, none⟩) l.length lc) ∧ w'.cell? ⟨lg, r, none⟩ = some (qv r) ∧ w'.cell? ⟨ab, 1, none⟩ = some (.int .i64 b))) 15 (by kernel_rfl) (by kernel_rfl) ?_ ?_
  · exact ⟨by assumption, by assumption, by assumption⟩
  intro hSS
  refine wpHd_take (i := 0) (v := ?_) (by kernel_rfl) rfl (by kernel_rfl) (fun _ _ _ h => h) (.inl ⟨by rfl, ?_⟩) hSS ?_
  rotate_left
  · intro w hSw; (try dsimp only at hSw); go_simp; (try with_reducible rfl)
  refine wpHd_take (i := 1) (v := ?_) (by kernel_rfl) rfl (by kernel_rfl) (fun _ _ _ h => h) (.inl ⟨by rfl, ?_⟩) hSS ?_
  rotate_left
  · intro w hSw; (try dsimp only at hSw); go_simp; (try with_reducible rfl)
  refine wpHd_take (i := 2) (v := ?_) (by kernel_rfl) rfl (by kernel_rfl) (fun _ _ _ h => h) (.inl ⟨by rfl, ?_⟩) hSS ?_
  rotate_left
  · intro w hSw; (try dsimp only at hSw); go_simp; (try with_reducible rfl)
  refine wpHd_take (i := 3) (v := ?_) (by kernel_rfl) rfl (by kernel_rfl) (fun _ _ _ h => h) (.inl ⟨by rfl, ?_⟩) hSS ?_
  rotate_left
  · intro w hSw; (try dsimp only at hSw); go_simp; (try with_reducible rfl)
  refine wpHd_take (i := 4) (v := ?_) (by kernel_rfl) rfl (by kernel_rfl) (fun _ _ _ h => h) (.inl ⟨by rfl, ?_⟩) hSS ?_
  rotate_left
  · intro w hSw; (try dsimp only at hSw); go_simp; (try with_reducible rfl)
  try simp only [Act.put, List.getElem_toArray, List.getElem_cons_succ, List.getElem_cons_zero, List.setIfInBounds_toArray, List.set_cons_zero, List.set_cons_succ]
  refine wpHd_take (i := 5) (v := ?_) (by kernel_rfl) rfl (by kernel_rfl) (fun _ _ _ h => h) (.inl ⟨by rfl, ?_⟩) hSS ?_
  rotate_left
  · intro w hSw; (try dsimp only at hSw); go_simp; (try with_reducible rfl)
  refine wpHd_take (i := 6) (v := ?_) (by kernel_rfl) rfl (by kernel_rfl) (fun _ _ _ h => h) (.inl ⟨by rfl, ?_⟩) hSS ?_
  rotate_left
  · intro w hSw; (try dsimp only at hSw); go_simp; (try with_reducible rfl)
  refine wpHd_take (i := 7) (v := ?_) (by kernel_rfl) rfl (by kernel_rfl) (fun _ _ _ h => h) (.inl ⟨by rfl, ?_⟩) hSS ?_
  rotate_left
  · intro w hSw; (try dsimp only at hSw); go_simp; (try with_reducible rfl)
  refine wpHd_take (i := 8) (v := ?_) (by kernel_rfl) rfl (by kernel_rfl) (fun _ _ _ h => h) (.inl ⟨by rfl, ?_⟩) hSS ?_
  rotate_left
  · intro w hSw; (try dsimp only at hSw); go_simp; (try with_reducible rfl)
  refine wpHd_take (i := 9) (v := ?_) (by kernel_rfl) rfl (by kernel_rfl) (fun _ _ _ h => h) (.inl ⟨by rfl, ?_⟩) hSS ?_
  rotate_left
  · intro w hSw; (try dsimp only at hSw); go_simp; (try with_reducible rfl)
  try simp only [Act.put, List.getElem_toArray, List.getElem_cons_succ, List.getElem_cons_zero, List.setIfInBounds_toArray, List.set_cons_zero, List.set_cons_succ]
  refine wpHd_take (i := 10) (v := ?_) (by kernel_rfl) rfl (by kernel_rfl) (fun _ _ _ h => h) (.inl ⟨by rfl, ?_⟩) hSS ?_
  rotate_left
  · intro w hSw; (try dsimp only at hSw); go_simp; (try with_reducible rfl)
  refine wpHd_take (i := 11) (v := ?_) (by kernel_rfl) rfl (by kernel_rfl) (fun _ _ _ h => h) (.inl ⟨by rfl, ?_⟩) hSS ?_
  rotate_left
  · intro w hSw; (try dsimp only at hSw); go_simp; (try with_reducible rfl)
  refine wpHd_take (i := 12) (v := ?_) (by kernel_rfl) rfl (by kernel_rfl) (fun _ _ _ h => h) (.inl ⟨by rfl, ?_⟩) hSS ?_
  rotate_left
  · intro w hSw; (try dsimp only at hSw); go_simp; (try with_reducible rfl)
  refine wpHd_take (i := 13) (v := ?_) (by kernel_rfl) rfl (by kernel_rfl) (fun _ _ _ h => h) (.inl ⟨by rfl, ?_⟩) hSS ?_
  rotate_left
  · intro w hSw; (try dsimp only at hSw); go_simp; (try with_reducible rfl)
  try simp only [Act.put, List.getElem_toArray, List.getElem_cons_succ, List.getElem_cons_zero, List.setIfInBounds_toArray, List.set_cons_zero, List.set_cons_succ]
  refine wpHd_one (i := 14) rfl (by kernel_rfl) (fun Kc hK => ?_)
  go_simp
  refine (ahead_any b Wq.drew ((HRAq.out.q r HR.out).only ((Only.refl Non Wq).drew) fun _ _ => id) HLN.out).mono ?_
  rintro e W4 ⟨vn, rfl, hon, hnn⟩
  obtain ⟨An, nn, cn, rfl⟩ : ∃ A n c, vn = Value.slice A n c := by obtain ⟨A, c, e, _⟩ := hon.shape; exact ⟨A, _, c, e⟩
  have HVN := Lib.hid hon
  have HNN := Lib.hid ((Only.refl Non Wq).drew.trans hnn)
  have k1 := hnn.cell hSS.1 id
  have k2 := hnn.cell hSS.2.1 id
  have k3 := hnn.cell hSS.2.2 id
  clear hon hnn
  refine hK.out _ _ ?_ (fun hSS => ?_)
  · exact ⟨by assumption, by assumption, by assumption⟩
  clear hK
  try simp only [Act.put, List.getElem_toArray, List.getElem_cons_succ, List.getElem_cons_zero, List.setIfInBounds_toArray, List.set_cons_zero, List.set_cons_succ]
  refine wpHd_end (by kernel_rfl) ?_
  have hfz : W4.frozen? ⟨lg, r, none⟩ = false := by
    obtain ⟨cs, hb⟩ := (HRAq.out.keep HNN.out).row.box (k := lg) (by rw [HLV.out]; exact ownB_slice.2 rfl)
    exact hb.free r
  clear hSS k3
  go_upto_region 21 with fail
  have hoS : Only (ownB j.lv) Wq (W4.setCell ⟨lg, r, none⟩ (.slice An nn cn)) := (((Only.refl (ownB j.lv) Wq).transN HNN.out).setCell (p := ⟨lg, r, none⟩) (.inl (by rw [HLV.out]; exact ownB_slice.2 rfl)) _)
  have hown : OwnInts 3 W4 j.B (.slice An nn cn) (b :: S r) := by
    have h1 := HVN.out.low HRAq.out.bs
    exact h1
  have HRA5 := Lib.hid ((HRAq.out.keep HNN.out).setq HR.out (g := lg) (by rw [HLV.out]; exact ownB_slice.2 rfl) hown)
  have HE5 := Lib.hid (hoS.box HEq.out (fun hk => by have h9 := HRAq.out.ltr _ hk; have := HJB.out; have := HAB.out; have := HRB.out; have := HEB.out; omega))
  have HR5 := Lib.hid (hoS.box HRq.out (fun hk => by have h9 := HRAq.out.ltr _ hk; have := HJB.out; have := HAB.out; have := HRB.out; have := HEB.out; omega))
  have HO5 := Lib.hid (HOq.out.trans hoS)
  change Code.wp _ _ _ _ (W4.setCell ⟨lg, r, none⟩ (.slice An nn cn))
  clear k1 k2 hfz hoS hown HRAq HEq HRq HOq HVN HNN
  generalize W4.setCell ⟨lg, r, none⟩ (.slice An nn cn) = W5 at *
  generalize updN qv r (.slice An nn cn) = qv' at *
  go_wp2_with (first | (refine wpList_load_row rfl 252 _ rfl eb rfl 252 (wzC 0 false false) (0, 0) _ HE5.out Tryz.underlying252 rfl (by kernel_rfl) ?_) | (refine wpList_store_row rfl 252 _ _ rfl rb (wzC 0 false false) rfl rfl 252 _ HR5.out (by kernel_rfl) rfl (wzC_one _ _ _) ?_))
  (try simp only [Exit.inBlock, Exit.then])
  refine bodyPost_ret (results_cell_row rfl _ _ rb _ (wzC 0 false false) (0, 0) _ rfl (HR5.out.setRow' _) Tryz.underlying252 rfl (by kernel_rfl)) rfl ?_
  have hos : Only (Just rb) W5 (W5.setRow rb (wzC 0 false false)) := (Only.refl (Just rb) W5).setRow' (.inl rfl) _
  refine ⟨by rw [HEQ.out], ⟨_, (HRA5.out.congr fun i _ => ?_).offT HR5.out (by have := HJB.out; have := HRB.out; omega) hos⟩, HO5.out.setRow' (.inr (by have := HRB.out; omega)) _⟩
  have h2 : remS S b = S := funext fun k => List.erase_of_not_mem (HBN.out k)
  rw [HEQ.out]
  show _ = frontS (remS S b) (rngI l b) b i
  rw [h2, ← HRR.out]
  rfl
theorem rpt_add_full (h : Rpt j l O S w) (hI : PrtI1 l O j.t S) (hP : hintsP blocks l) (hbb : 0 ≤ b ∧ b < 64) (hb : b ∉ S (rngI l b)) (hpt : 0 < partV l O b j.t) (hl16 : (S (rngI l b)).length ≤ 64) (hfull : partV l O b j.t ≤ ((S (rngI l b)).length : Int)) :
    Calls Tryz.prog 219 #[.pointer (some ⟨j.pb, 0, none⟩), .agg #[.int .i64 1, .int .i64 b]] w (RpDo j l O (prtAdd l O j.t S b).1 (prtAdd l O j.t S b).2.1 (prtAdd l O j.t S b).2.2 false w) := by
  have hr := (partV_of hpt).1
  have HWB := Lib.hid (show decide (b ∈ S (rngI l b)) = false from decide_eq_false hb)
  have HL16 := Lib.hid hl16
  have HBN := Lib.hid (show ∀ i, b ∉ S i from fun i h2 => hb (by rw [← (hI.at_ h2).1]; exact h2))
  have hpv : (partV l O b j.t == 0) = false := by simp; omega
  have hpv2 : ¬ partV l O b j.t = 0 := by omega
  have hne : S (rngI l b) ≠ [] := fun e => by rw [e] at hfull; simp at hfull; omega
  have HNE := Lib.hid hne
  have HEQ0 := Lib.hid (show prtAdd l O j.t S b = (frontS (remS (remS S (prtGoes l S (rngI l b) b)) b) (rngI l b) b, prtGoes l S (rngI l b) b, true) by unfold prtAdd; rw [if_neg hb, if_neg (by omega)])
  have HVM0 := Lib.hid (prtGoes_mem (l := l) (b := b) hne)
  have HGO := Lib.hid (show prtGoes l S (rngI l b) b = if (l.getD (rngI l b) default).loop = true then Go.Proofs.YtodephhlhdbeoaaGreat.hd (S (rngI l b)) else lst (S (rngI l b)) by
    unfold prtGoes loopV
    rw [decide_eq_true hr, Bool.true_and])
  clear hne
  clear hb hl16
  obtain ⟨qv, hA⟩ := h
  have hn8 := hP.2.2
  have HBB := Lib.hid hbb
  have HPP := Lib.hid hP
  have HI := Lib.hid hI
  have e1 : rngZ l b = rngI l b := by unfold rngZ; rw [if_pos hr]
  have HA1 := Lib.hid (Box.fresh w 255 #[.int .i64 1, .int .i64 b])
  have ho1 : Only Non w (w.alloc (.cells #[.int .i64 1, .int .i64 b] 255)) := (Only.refl Non w).alloc _
  have HO1 := Lib.hid ho1
  have HRA := Lib.hid (hA.keep ho1)
  have HJB := Lib.hid hA.bs
  obtain ⟨r, hrr⟩ : ∃ r, r = rngI l b := ⟨_, rfl⟩
  have HRR := Lib.hid hrr
  have HR := Lib.hid (show r < l.length by rw [hrr]; exact hr)
  have hri : (r : Int) < l.length := by omega
  have hr0 : (0 : Int) ≤ r := by omega
  clear hA ho1 hP hI hr hrr
  go_enter Tryz.func219, Tryz.ntmps219
  go_upto_region 1 with fail
  change Code.wp _ _ _ _ ((w.alloc (.cells #[.int .i64 1, .int .i64 b] 255)).alloc (.cells (wzC 0 false false) 252))
  have hsz : (w.alloc (.cells #[.int .i64 1, .int .i64 b] 255)).heap.size = w.heap.size + 1 := World.size_alloc ..
  generalize w.alloc (.cells #[.int .i64 1, .int .i64 b] 255) = W0 at *
  obtain ⟨ab, hab⟩ : ∃ ab, ab = w.heap.size := ⟨_, rfl⟩
  rw [← hab] at HA1 hsz ⊢
  have HAB := Lib.hid (show w.heap.size ≤ ab from Nat.le_of_eq hab.symm)
  clear hab
  have HR1 := Lib.hid (Box.fresh W0 252 (wzC 0 false false))
  have ho1 : Only Non W0 (W0.alloc (.cells (wzC 0 false false) 252)) := (Only.refl Non W0).alloc _
  have HA2 := Lib.hid (ho1.box HA1.out id)
  have HO2 := Lib.hid (HO1.out.trans ho1)
  have HRB := Lib.hid (show w.heap.size ≤ W0.heap.size from HO1.out.size)
  have HRA2 := Lib.hid (HRA.out.keep ho1)
  clear ho1 HA1 HO1 HRA
  generalize W0.alloc (.cells (wzC 0 false false) 252) = W1 at *
  rw [hsz] at HR1 HRB
  clear hsz
  generalize ab + 1 = rb at *
  have HHS := Lib.hid (rpt_has (b := b) ⟨qv, HRA2.out⟩ HI.out HPP.out HBB.out)
  have HHS : Hid (Calls Tryz.prog 264 #[.pointer (some ⟨j.pb, 0, none⟩), .int .i64 b] W1 fun e w' => e = .returned (.bool false) ∧ ∃ m, W1.drewN m = w') := Lib.hid (by have h9 := HHS.out; rw [HWB.out] at h9; exact h9)
  have y0 : W1.cell? ⟨ab, 0, none⟩ = some (.int .i64 1) := HA2.out.cellAt rfl
  have y1 : W1.cell? ⟨ab, 1, none⟩ = some (.int .i64 b) := HA2.out.cellAt rfl
  go_upto_region 2 with (go_at_call 264; refine HHS.out.mono ?_; rintro e Wm ⟨rfl, m, hm⟩; have HNm := Lib.hid (show Only Non W1 Wm from hm ▸ (Only.refl Non W1).drewN m); clear hm)
  change Code.wp _ _ _ _ (Wm.alloc (.cells (wzC 0 false false) 252))
  have ho1 : Only Non W1 (Wm.alloc (.cells (wzC 0 false false) 252)) := HNm.out.alloc _
  have HE2 := Lib.hid (Box.fresh Wm 252 (wzC 0 false false))
  have HR2 := Lib.hid (ho1.box HR1.out id)
  have HA3 := Lib.hid (ho1.box HA2.out id)
  have HO3 := Lib.hid (HO2.out.trans ho1)
  have HRA3 := Lib.hid (HRA2.out.keep ho1)
  have HEB := Lib.hid (show w.heap.size ≤ Wm.heap.size ∧ rb < Wm.heap.size from ⟨Nat.le_trans HO2.out.size HNm.out.size, Nat.lt_of_lt_of_le HR1.out.lt HNm.out.size⟩)
  clear ho1 HHS HR1 HA2 HO2 HRA2 y0 y1 HNm
  generalize Wm.alloc (.cells (wzC 0 false false) 252) = W2 at *
  generalize Wm.heap.size = eb at *
  have HRG := Lib.hid (fun q => rrange_any b (W2.drewN q) (HRA3.out.hin.only ((Only.refl Non W2).drewN q) fun _ _ => id) HPP.out HBB.out)
  rw [e1, ← HRR.out] at HRG
  clear e1
  have x0 : W2.cell? ⟨j.pb, 0, none⟩ = some (.slice j.A l.length j.c) := HRA3.out.c0
  have y1 : W2.cell? ⟨ab, 1, none⟩ = some (.int .i64 b) := HA3.out.cellAt rfl
  go_quiet ((go_at_call 164; exact quiet_d ((HRG.out _).mono fun _ _ ⟨he, m, hm⟩ => ⟨he, m, hm.symm⟩)))
  have HE3 := Lib.hid (show Box (W2.drewN nq) eb 252 (wzC 0 false false) from ((Only.refl Non W2).drewN nq).box HE2.out id)
  have HR3 := Lib.hid (show Box (W2.drewN nq) rb 252 (wzC 0 false false) from ((Only.refl Non W2).drewN nq).box HR2.out id)
  have HA4 := Lib.hid (show Box (W2.drewN nq) ab 255 #[.int .i64 1, .int .i64 b] from ((Only.refl Non W2).drewN nq).box HA3.out id)
  have HO4 := Lib.hid (HO3.out.drewN nq)
  have HRA4 := Lib.hid (HRA3.out.keep ((Only.refl Non W2).drewN nq))
  clear HE2 HR2 HA3 HO3 HRA3 HRG x0 y1
  generalize W2.drewN nq = W3 at *
  have y0 : W3.cell? ⟨ab, 0, none⟩ = some (.int .i64 1) := HA4.out.cellAt rfl
  have y1 : W3.cell? ⟨ab, 1, none⟩ = some (.int .i64 b) := HA4.out.cellAt rfl
  have HLV : Hid (∃ lg lc, j.lv = .slice (some ⟨lg, 0, none⟩) l.length lc) := Lib.hid (by obtain ⟨g, c, e, _⟩ := HRA4.out.cq HR.out; exact ⟨g, c, e⟩)
  obtain ⟨lg, lc, hlv⟩ := HLV.out
  have HLV := Lib.hid hlv
  clear hlv
  have HPT := Lib.hid (rpt_part (b := b) ⟨qv, HRA4.out⟩ HPP.out HBB.out)
  generalize hpvv : partV l O b j.t = pv at *
  have HPVV := Lib.hid hpvv
  clear hpvv
  go_upto_region 6 with (go_at_call 102; refine HPT.out.mono ?_; rintro e Wp ⟨rfl, m, hm⟩; have HNp := Lib.hid (show Only Non W3 Wp from hm ▸ (Only.refl Non W3).drewN m); clear hm)
  have HE3p := Lib.hid (HNp.out.box HE3.out id)
  have HR3p := Lib.hid (HNp.out.box HR3.out id)
  have HA4p := Lib.hid (HNp.out.box HA4.out id)
  have HO4p := Lib.hid (HO4.out.trans HNp.out)
  have HRA4p := Lib.hid (HRA4.out.keep HNp.out)
  clear y0 y1 HPT HE3 HR3 HA4 HO4 HRA4 HNp
  have y0 : Wp.cell? ⟨ab, 0, none⟩ = some (.int .i64 1) := HA4p.out.cellAt rfl
  have y1 : Wp.cell? ⟨ab, 1, none⟩ = some (.int .i64 b) := HA4p.out.cellAt rfl
  have z3 : Wp.cell? ⟨eb, 3, none⟩ = some (.bool false) := HE3p.out.cellAt rfl
  have HPT2 := Lib.hid (rpt_part (b := b) ⟨qv, HRA4p.out⟩ HPP.out HBB.out)
  rw [HPVV.out] at HPT2
  have x3 : Wp.cell? ⟨j.pb, 3, none⟩ = some (.slice (some ⟨lg, 0, none⟩) l.length lc) := HRA4p.out.c3.trans (by rw [HLV.out])
  have xq : Wp.cell? ⟨lg, r, none⟩ = some (qv r) := by
    obtain ⟨g, c, e, h1, _⟩ := HRA4p.out.cq HR.out
    rw [HLV.out] at e
    injection e with e e2; injection e with e; injection e with e
    rw [e]; exact h1
  have hownr := HRA4p.out.q r HR.out
  obtain ⟨A, c, eq, hs1, hs2⟩ := hownr.shape
  have hat := hownr.at
  rw [eq] at xq hat
  rw [← HRR.out] at hfull HNE HEQ0 HVM0 HGO
  have HLN := Lib.hid (show (S r).length ≤ 10000 by have := HL16.out; rw [← HRR.out] at this; omega)
  obtain ⟨M, hM⟩ : ∃ M, (S r).length = M + 1 := ⟨(S r).length - 1, by have := List.length_pos_iff.2 HNE.out; omega⟩
  obtain ⟨g, o, rfl, hcl⟩ := hat.cellAt (i := M) (by omega)
  obtain ⟨g', o', e', hch⟩ := hat.cellAt (i := 0) (by omega)
  injection e' with e'
  injection e' with e1 e2
  subst e1 e2
  rw [lst_getD hM] at hcl
  rw [hd_getD HNE.out, Nat.add_zero] at hch
  rw [hM] at xq hfull
  have hM64 : M ≤ 64 := by have := HL16.out; rw [← HRR.out] at this; omega
  have hful2 : pv ≤ (M : Int) + 1 := by omega
  have hwM : IntKind.i64.wrap (M : Int) = M := by rw [IntKind.wrap_i64]; omega
  have hM1 : (M : Int) < (M : Int) + 1 := by omega
  have hM0 : (0 : Int) < (M : Int) + 1 := by omega
  obtain ⟨hg, hgo, ehA, _, _, _, _, hlp⟩ := HRA4p.out.hin.at_ r HR.out
  have x0 : Wp.cell? ⟨j.pb, 0, none⟩ = some (.slice (some ⟨hg, hgo, none⟩) l.length j.c) := HRA4p.out.c0.trans (by rw [ehA])
  have HM := Lib.hid hM
  have HQR := Lib.hid eq
  have HHA := Lib.hid ehA
  clear eq hs1 hs2 hownr hat ehA hM
  go_upto_region 15 with (go_at_call 102; refine HPT2.out.mono ?_; rintro e Wq ⟨rfl, m, hm⟩; have HNq := Lib.hid (show Only Non Wp Wq from hm ▸ (Only.refl Non Wp).drewN m); clear hm)
  have HEq := Lib.hid (HNq.out.box HE3p.out id)
  have HRq := Lib.hid (HNq.out.box HR3p.out id)
  have HAq := Lib.hid (HNq.out.box HA4p.out id)
  have HOq := Lib.hid (show Only (ownB j.lv) w Wq from (HO4p.out.trans HNq.out).mono fun _ hb => hb.elim)
  have HRAq := Lib.hid (HRA4p.out.keep HNq.out)
  have x3q := HNq.out.cell x3 id
  have xqq := HNq.out.cell xq id
  have hclq := HNq.out.cell hcl id
  have hchq := HNq.out.cell hch id
  have x0q := HNq.out.cell x0 id
  have hlpq := HNq.out.cell hlp id
  clear x3 xq y0 y1 z3 HPT2 HE3p HR3p HA4p HO4p HRA4p HNq hcl hch x0 hlp
  generalize hlst : lst (S r) = vl at *
  generalize hhd : Go.Proofs.YtodephhlhdbeoaaGreat.hd (S r) = vh at *
  have a1 : Wq.cell? ⟨eb, 1, none⟩ = some (.int .i64 0) := HEq.out.cellAt rfl
  have f1 : Wq.frozen? ⟨eb, 1, none⟩ = false := HEq.out.free 1
  have HNQ := Lib.hid (show (¬ Just eb j.pb) ∧ (¬ Just eb lg) ∧ (¬ Just eb g) ∧ (¬ Just eb hg) from by
    have h1 := HRAq.out.ltp
    have h2 := HRAq.out.ltr lg (by rw [HLV.out]; exact ownB_slice.2 rfl)
    have h4 := HJB.out
    have h5 := HEB.out
    refine ⟨fun e => ?_, fun e => ?_, fun e => ?_, fun e => ?_⟩
    · have h9 : j.pb = eb := e; omega
    · have h9 : lg = eb := e; omega
    · have h9 : g = eb := e
      obtain ⟨c9, hb9⟩ := (HRAq.out.q r HR.out).boxOf (k := g) (by rw [HQR.out]; exact ownB_slice.2 rfl)
      exact (hb9.off HEq.out (by decide)) h9
    · have h9 : hg = eb := e
      have := (HRAq.out.lth (by have := HR.out; omega) hg hgo HHA.out).1
      omega)
  generalize prtGoes l S r b = v at *
  go_upto_region 16 with fail
  have hoE : Only (Just eb) Wq (Wq.setCell ⟨eb, 1, none⟩ (.int .i64 vl)) := (Only.refl (Just eb) Wq).setCell (p := ⟨eb, 1, none⟩) (.inl (show Just eb eb from rfl)) _
  have HEs := Lib.hid (show Box _ eb 252 (wzC vl false false) from HEq.out.store 1 (.int .i64 vl))
  have HRs := Lib.hid (hoE.box HRq.out (fun e => by have h9 : rb = eb := e; have := HEB.out; omega))
  have HAs := Lib.hid (hoE.box HAq.out (HAq.out.off HEq.out (by decide)))
  have HOs := Lib.hid (HOq.out.setCell (p := ⟨eb, 1, none⟩) (.inr HEB.out.1) (.int .i64 vl))
  have HRAs := Lib.hid (HRAq.out.offT HEq.out (by have := HJB.out; have := HEB.out; omega) hoE)
  have hoEc := Lib.hid hoE
  change Code.wp _ _ _ _ (Wq.setCell ⟨eb, 1, none⟩ (.int .i64 vl))
  clear hoE HEq HRq HAq HOq HRAq
  have x0s := hoEc.out.cell x0q HNQ.out.1
  have x3s := hoEc.out.cell x3q HNQ.out.1
  have xqs := hoEc.out.cell xqq HNQ.out.2.1
  have hchs := hoEc.out.cell hchq HNQ.out.2.2.1
  have hlps := hoEc.out.cell hlpq HNQ.out.2.2.2
  clear x0q x3q xqq hchq hclq hlpq a1 f1 hoEc
  generalize Wq.setCell ⟨eb, 1, none⟩ (.int .i64 vl) = Ws at *
  cases hlo : (l.getD r default).loop with
  | false =>
    rw [hlo] at hlps
    obtain rfl : v = vl := by rw [HGO.out, hlo, if_neg (by decide)]
    have HEQ := Lib.hid HEQ0.out
    have HVM := Lib.hid HVM0.out
    clear hlo HGO hlst hhd
    go_upto_region 18 with fail
    clear x0s x3s xqs hchs hlps
    have a2 : Ws.cell? ⟨eb, 2, none⟩ = some (.bool false) := HEs.out.cellAt rfl
    have f2 : Ws.frozen? ⟨eb, 2, none⟩ = false := HEs.out.free 2
    go_upto_region 19 with fail
    have hoE : Only (Just eb) Ws (Ws.setCell ⟨eb, 2, none⟩ (.bool true)) := (Only.refl (Just eb) Ws).setCell (p := ⟨eb, 2, none⟩) (.inl (show Just eb eb from rfl)) _
    have HEx := Lib.hid (show Box _ eb 252 (wzC v true false) from HEs.out.store 2 (.bool true))
    have HRx := Lib.hid (hoE.box HRs.out (fun e => by have h9 : rb = eb := e; have := HEB.out; omega))
    have HAx := Lib.hid (hoE.box HAs.out (HAs.out.off HEs.out (by decide)))
    have HOx := Lib.hid (HOs.out.setCell (p := ⟨eb, 2, none⟩) (.inr HEB.out.1) (.bool true))
    have HRAx := Lib.hid (HRAs.out.offT HEs.out (by have := HJB.out; have := HEB.out; omega) hoE)
    change Code.wp _ _ _ _ (Ws.setCell ⟨eb, 2, none⟩ (.bool true))
    clear hoE HEs HRs HAs HOs HRAs
    clear a2 f2
    generalize Ws.setCell ⟨eb, 2, none⟩ (.bool true) = Wx at *
    have k1 : Wx.drew.cell? ⟨j.pb, 3, none⟩ = some (.slice (some ⟨lg, 0, none⟩) l.length lc) := HRAx.out.c3.trans (by rw [HLV.out])
    have k2 : Wx.drew.cell? ⟨lg, r, none⟩ = some (qv r) := by
      obtain ⟨g, c, e, h1, _⟩ := HRAx.out.cq HR.out
      rw [HLV.out] at e
      injection e with e e2; injection e with e; injection e with e
      rw [e]; exact h1
    have k3 : Wx.drew.cell? ⟨eb, 1, none⟩ = some (.int .i64 v) := HEx.out.cellAt rfl
    refine wp_region_tail (S := (fun w' : World => w'.cell? ⟨j.pb, 3, none⟩ = some (.slice (some ⟨lg, 0, none⟩) l.length lc) ∧ w'.cell? ⟨lg, r, none⟩ = some (qv r) ∧ w'.cell? ⟨eb, 1, none⟩ = some (.int .i64 v))) 15 (by kernel_rfl) (by kernel_rfl) ?_ ?_
    · exact ⟨by assumption, by assumption, by assumption⟩
    intro hSS
    refine wpHd_take (i := 0) (v := ?_) (by kernel_rfl) rfl (by kernel_rfl) (fun _ _ _ h => h) (.inl ⟨by rfl, ?_⟩) hSS ?_
    rotate_left
    · intro w hSw; (try dsimp only at hSw); go_simp; (try with_reducible rfl)
    refine wpHd_take (i := 1) (v := ?_) (by kernel_rfl) rfl (by kernel_rfl) (fun _ _ _ h => h) (.inl ⟨by rfl, ?_⟩) hSS ?_
    rotate_left
    · intro w hSw; (try dsimp only at hSw); go_simp; (try with_reducible rfl)
    refine wpHd_take (i := 2) (v := ?_) (by kernel_rfl) rfl (by kernel_rfl) (fun _ _ _ h => h) (.inl ⟨by rfl, ?_⟩) hSS ?_
    rotate_left
    · intro w hSw; (try dsimp only at hSw); go_simp; (try with_reducible rfl)
    refine wpHd_take (i := 3) (v := ?_) (by kernel_rfl) rfl (by kernel_rfl) (fun _ _ _ h => h) (.inl ⟨by rfl, ?_⟩) hSS ?_
    rotate_left
    · intro w hSw; (try dsimp only at hSw); go_simp; (try with_reducible rfl)
    refine wpHd_take (i := 4) (v := ?_) (by kernel_rfl) rfl (by kernel_rfl) (fun _ _ _ h => h) (.inl ⟨by rfl, ?_⟩) hSS ?_
    rotate_left
    · intro w hSw; (try dsimp only at hSw); go_simp; (try with_reducible rfl)
    try simp only [Act.put, List.getElem_toArray, List.getElem_cons_succ, List.getElem_cons_zero, List.setIfInBounds_toArray, List.set_cons_zero, List.set_cons_succ]
    refine wpHd_take (i := 5) (v := ?_) (by kernel_rfl) rfl (by kernel_rfl) (fun _ _ _ h => h) (.inl ⟨by rfl, ?_⟩) hSS ?_
    rotate_left
    · intro w hSw; (try dsimp only at hSw); go_simp; (try with_reducible rfl)
    refine wpHd_take (i := 6) (v := ?_) (by kernel_rfl) rfl (by kernel_rfl) (fun _ _ _ h => h) (.inl ⟨by rfl, ?_⟩) hSS ?_
    rotate_left
    · intro w hSw; (try dsimp only at hSw); go_simp; (try with_reducible rfl)
    refine wpHd_take (i := 7) (v := ?_) (by kernel_rfl) rfl (by kernel_rfl) (fun _ _ _ h => h) (.inl ⟨by rfl, ?_⟩) hSS ?_
    rotate_left
    · intro w hSw; (try dsimp only at hSw); go_simp; (try with_reducible rfl)
    refine wpHd_take (i := 8) (v := ?_) (by kernel_rfl) rfl (by kernel_rfl) (fun _ _ _ h => h) (.inl ⟨by rfl, ?_⟩) hSS ?_
    rotate_left
    · intro w hSw; (try dsimp only at hSw); go_simp; (try with_reducible rfl)
    refine wpHd_take (i := 9) (v := ?_) (by kernel_rfl) rfl (by kernel_rfl) (fun _ _ _ h => h) (.inl ⟨by rfl, ?_⟩) hSS ?_
    rotate_left
    · intro w hSw; (try dsimp only at hSw); go_simp; (try with_reducible rfl)
    try simp only [Act.put, List.getElem_toArray, List.getElem_cons_succ, List.getElem_cons_zero, List.setIfInBounds_toArray, List.set_cons_zero, List.set_cons_succ]
    refine wpHd_take (i := 10) (v := ?_) (by kernel_rfl) rfl (by kernel_rfl) (fun _ _ _ h => h) (.inl ⟨by rfl, ?_⟩) hSS ?_
    rotate_left
    · intro w hSw; (try dsimp only at hSw); go_simp; (try with_reducible rfl)
    refine wpHd_take (i := 11) (v := ?_) (by kernel_rfl) rfl (by kernel_rfl) (fun _ _ _ h => h) (.inl ⟨by rfl, ?_⟩) hSS ?_
    rotate_left
    · intro w hSw; (try dsimp only at hSw); go_simp; (try with_reducible rfl)
    refine wpHd_take (i := 12) (v := ?_) (by kernel_rfl) rfl (by kernel_rfl) (fun _ _ _ h => h) (.inl ⟨by rfl, ?_⟩) hSS ?_
    rotate_left
    · intro w hSw; (try dsimp only at hSw); go_simp; (try with_reducible rfl)
    refine wpHd_take (i := 13) (v := ?_) (by kernel_rfl) rfl (by kernel_rfl) (fun _ _ _ h => h) (.inl ⟨by rfl, ?_⟩) hSS ?_
    rotate_left
    · intro w hSw; (try dsimp only at hSw); go_simp; (try with_reducible rfl)
    try simp only [Act.put, List.getElem_toArray, List.getElem_cons_succ, List.getElem_cons_zero, List.setIfInBounds_toArray, List.set_cons_zero, List.set_cons_succ]
    refine wpHd_one (i := 14) rfl (by kernel_rfl) (fun Kc hK => ?_)
    go_simp
    refine (without_any v Wx.drew ((HRAx.out.q r HR.out).only ((Only.refl Non Wx).drew) fun _ _ => id) HLN.out).mono ?_
    rintro e Wxx ⟨vn, rfl, hon, hnn⟩
    obtain ⟨An, nn, cn, rfl⟩ : ∃ A n c, vn = Value.slice A n c := by obtain ⟨A, c, e, _⟩ := hon.shape; exact ⟨A, _, c, e⟩
    have HVN := Lib.hid hon
    have HNN := Lib.hid ((Only.refl Non Wx).drew.trans hnn)
    have k1 := hnn.cell hSS.1 id
    have k2 := hnn.cell hSS.2.1 id
    have k3 := hnn.cell hSS.2.2 id
    clear hon hnn
    refine hK.out _ _ ?_ (fun hSS => ?_)
    · exact ⟨by assumption, by assumption, by assumption⟩
    clear hK
    try simp only [Act.put, List.getElem_toArray, List.getElem_cons_succ, List.getElem_cons_zero, List.setIfInBounds_toArray, List.set_cons_zero, List.set_cons_succ]
    refine wpHd_end (by kernel_rfl) ?_
    have hfz : Wxx.frozen? ⟨lg, r, none⟩ = false := by
      obtain ⟨cs, hb⟩ := (HRAx.out.keep HNN.out).row.box (k := lg) (by rw [HLV.out]; exact ownB_slice.2 rfl)
      exact hb.free r
    clear hSS k3
    go_upto_region 20 with fail
    have hoS : Only (ownB j.lv) Wx (Wxx.setCell ⟨lg, r, none⟩ (.slice An nn cn)) := (((Only.refl (ownB j.lv) Wx).transN HNN.out).setCell (p := ⟨lg, r, none⟩) (.inl (by rw [HLV.out]; exact ownB_slice.2 rfl)) _)
    have hown : OwnInts 3 Wxx j.B (.slice An nn cn) ((S r).erase v) := by
      have h1 := HVN.out.low HRAx.out.bs
      rw [erase_filter (HI.out.nodup r)] at h1
      exact h1
    have HRAy := Lib.hid ((HRAx.out.keep HNN.out).setq HR.out (g := lg) (by rw [HLV.out]; exact ownB_slice.2 rfl) hown)
    have HEy := Lib.hid (hoS.box HEx.out (fun hk => by have h9 := HRAx.out.ltr _ hk; have := HJB.out; have := HAB.out; have := HRB.out; have := HEB.out; omega))
    have HRy := Lib.hid (hoS.box HRx.out (fun hk => by have h9 := HRAx.out.ltr _ hk; have := HJB.out; have := HAB.out; have := HRB.out; have := HEB.out; omega))
    have HAy := Lib.hid (hoS.box HAx.out (fun hk => by have h9 := HRAx.out.ltr _ hk; have := HJB.out; have := HAB.out; have := HRB.out; have := HEB.out; omega))
    have HOy := Lib.hid (HOx.out.trans hoS)
    change Code.wp _ _ _ _ (Wxx.setCell ⟨lg, r, none⟩ (.slice An nn cn))
    clear k1 k2 hfz hoS hown HRAx HEx HRx HAx HOx HVN HNN
    generalize Wxx.setCell ⟨lg, r, none⟩ (.slice An nn cn) = Wy at *
    generalize updN qv r (.slice An nn cn) = qv' at *
    generalize hS5 : updN S r ((S r).erase v) = S5 at *
    have HS5 := Lib.hid (show S5 = remS S v from hS5 ▸ funext fun i => by
      unfold updN remS
      by_cases e : i = r
      · rw [if_pos e, e]
      · rw [if_neg e, List.erase_of_not_mem fun h2 => e ((HI.out.at_ h2).1.trans (HI.out.at_ HVM.out).1.symm)])
    clear hS5
    have HLN5 := Lib.hid (show (S5 r).length ≤ 10000 by
      have h1 := HLN.out
      have h2 : ((S r).erase v).length ≤ (S r).length := List.length_erase_le
      rw [HS5.out]
      show ((S r).erase v).length ≤ 10000
      omega)
    have k1 : Wy.drew.cell? ⟨j.pb, 3, none⟩ = some (.slice (some ⟨lg, 0, none⟩) l.length lc) := HRAy.out.c3.trans (by rw [HLV.out])
    have k2 : Wy.drew.cell? ⟨lg, r, none⟩ = some (qv' r) := by
      obtain ⟨g, c, e, h1, _⟩ := HRAy.out.cq HR.out
      rw [HLV.out] at e
      injection e with e e2; injection e with e; injection e with e
      rw [e]; exact h1
    have k3 : Wy.drew.cell? ⟨ab, 1, none⟩ = some (.int .i64 b) := HAy.out.cellAt rfl
    refine wp_region_tail (S := (fun w' : World => w'.cell? ⟨j.pb, 3, none⟩ = some (.slice (some ⟨lg, 0, none⟩) l.length lc) ∧ w'.cell? ⟨lg, r, none⟩ = some (qv' r) ∧ w'.cell? ⟨ab, 1, none⟩ = some (.int .i64 b))) 15 (by kernel_rfl) (by kernel_rfl) ?_ ?_
    · exact ⟨by assumption, by assumption, by assumption⟩
    intro hSS
    refine wpHd_take (i := 0) (v := ?_) (by kernel_rfl) rfl (by kernel_rfl) (fun _ _ _ h => h) (.inl ⟨by rfl, ?_⟩) hSS ?_
    rotate_left
    · intro w hSw; (try dsimp only at hSw); go_simp; (try with_reducible rfl)
    refine wpHd_take (i := 1) (v := ?_) (by kernel_rfl) rfl (by kernel_rfl) (fun _ _ _ h => h) (.inl ⟨by rfl, ?_⟩) hSS ?_
    rotate_left
    · intro w hSw; (try dsimp only at hSw); go_simp; (try with_reducible rfl)
    refine wpHd_take (i := 2) (v := ?_) (by kernel_rfl) rfl (by kernel_rfl) (fun _ _ _ h => h) (.inl ⟨by rfl, ?_⟩) hSS ?_
    rotate_left
    · intro w hSw; (try dsimp only at hSw); go_simp; (try with_reducible rfl)
    refine wpHd_take (i := 3) (v := ?_) (by kernel_rfl) rfl (by kernel_rfl) (fun _ _ _ h => h) (.inl ⟨by rfl, ?_⟩) hSS ?_
    rotate_left
    · intro w hSw; (try dsimp only at hSw); go_simp; (try with_reducible rfl)
    refine wpHd_take (i := 4) (v := ?_) (by kernel_rfl) rfl (by kernel_rfl) (fun _ _ _ h => h) (.inl ⟨by rfl, ?_⟩) hSS ?_
    rotate_left
    · intro w hSw; (try dsimp only at hSw); go_simp; (try with_reducible rfl)
    try simp only [Act.put, List.getElem_toArray, List.getElem_cons_succ, List.getElem_cons_zero, List.setIfInBounds_toArray, List.set_cons_zero, List.set_cons_succ]
    refine wpHd_take (i := 5) (v := ?_) (by kernel_rfl) rfl (by kernel_rfl) (fun _ _ _ h => h) (.inl ⟨by rfl, ?_⟩) hSS ?_
    rotate_left
    · intro w hSw; (try dsimp only at hSw); go_simp; (try with_reducible rfl)
    refine wpHd_take (i := 6) (v := ?_) (by kernel_rfl) rfl (by kernel_rfl) (fun _ _ _ h => h) (.inl ⟨by rfl, ?_⟩) hSS ?_
    rotate_left
    · intro w hSw; (try dsimp only at hSw); go_simp; (try with_reducible rfl)
    refine wpHd_take (i := 7) (v := ?_) (by kernel_rfl) rfl (by kernel_rfl) (fun _ _ _ h => h) (.inl ⟨by rfl, ?_⟩) hSS ?_
    rotate_left
    · intro w hSw; (try dsimp only at hSw); go_simp; (try with_reducible rfl)
    refine wpHd_take (i := 8) (v := ?_) (by kernel_rfl) rfl (by kernel_rfl) (fun _ _ _ h => h) (.inl ⟨by rfl, ?_⟩) hSS ?_
    rotate_left
    · intro w hSw; (try dsimp only at hSw); go_simp; (try with_reducible rfl)
    refine wpHd_take (i := 9) (v := ?_) (by kernel_rfl) rfl (by kernel_rfl) (fun _ _ _ h => h) (.inl ⟨by rfl, ?_⟩) hSS ?_
    rotate_left
    · intro w hSw; (try dsimp only at hSw); go_simp; (try with_reducible rfl)
    try simp only [Act.put, List.getElem_toArray, List.getElem_cons_succ, List.getElem_cons_zero, List.setIfInBounds_toArray, List.set_cons_zero, List.set_cons_succ]
    refine wpHd_take (i := 10) (v := ?_) (by kernel_rfl) rfl (by kernel_rfl) (fun _ _ _ h => h) (.inl ⟨by rfl, ?_⟩) hSS ?_
    rotate_left
    · intro w hSw; (try dsimp only at hSw); go_simp; (try with_reducible rfl)
    refine wpHd_take (i := 11) (v := ?_) (by kernel_rfl) rfl (by kernel_rfl) (fun _ _ _ h => h) (.inl ⟨by rfl, ?_⟩) hSS ?_
    rotate_left
    · intro w hSw; (try dsimp only at hSw); go_simp; (try with_reducible rfl)
    refine wpHd_take (i := 12) (v := ?_) (by kernel_rfl) rfl (by kernel_rfl) (fun _ _ _ h => h) (.inl ⟨by rfl, ?_⟩) hSS ?_
    rotate_left
    · intro w hSw; (try dsimp only at hSw); go_simp; (try with_reducible rfl)
    refine wpHd_take (i := 13) (v := ?_) (by kernel_rfl) rfl (by kernel_rfl) (fun _ _ _ h => h) (.inl ⟨by rfl, ?_⟩) hSS ?_
    rotate_left
    · intro w hSw; (try dsimp only at hSw); go_simp; (try with_reducible rfl)
    try simp only [Act.put, List.getElem_toArray, List.getElem_cons_succ, List.getElem_cons_zero, List.setIfInBounds_toArray, List.set_cons_zero, List.set_cons_succ]
    refine wpHd_one (i := 14) rfl (by kernel_rfl) (fun Kc hK => ?_)
    go_simp
    refine (ahead_any b Wy.drew ((HRAy.out.q r HR.out).only ((Only.refl Non Wy).drew) fun _ _ => id) HLN5.out).mono ?_
    rintro e Wyy ⟨vn, rfl, hon, hnn⟩
    obtain ⟨An, nn, cn, rfl⟩ : ∃ A n c, vn = Value.slice A n c := by obtain ⟨A, c, e, _⟩ := hon.shape; exact ⟨A, _, c, e⟩
    have HVN := Lib.hid hon
    have HNN := Lib.hid ((Only.refl Non Wy).drew.trans hnn)
    have k1 := hnn.cell hSS.1 id
    have k2 := hnn.cell hSS.2.1 id
    have k3 := hnn.cell hSS.2.2 id
    clear hon hnn
    refine hK.out _ _ ?_ (fun hSS => ?_)
    · exact ⟨by assumption, by assumption, by assumption⟩
    clear hK
    try simp only [Act.put, List.getElem_toArray, List.getElem_cons_succ, List.getElem_cons_zero, List.setIfInBounds_toArray, List.set_cons_zero, List.set_cons_succ]
    refine wpHd_end (by kernel_rfl) ?_
    have hfz : Wyy.frozen? ⟨lg, r, none⟩ = false := by
      obtain ⟨cs, hb⟩ := (HRAy.out.keep HNN.out).row.box (k := lg) (by rw [HLV.out]; exact ownB_slice.2 rfl)
      exact hb.free r
    clear hSS k3
    go_upto_region 21 with fail
    have hoS : Only (ownB j.lv) Wy (Wyy.setCell ⟨lg, r, none⟩ (.slice An nn cn)) := (((Only.refl (ownB j.lv) Wy).transN HNN.out).setCell (p := ⟨lg, r, none⟩) (.inl (by rw [HLV.out]; exact ownB_slice.2 rfl)) _)
    have hown : OwnInts 3 Wyy j.B (.slice An nn cn) (b :: S5 r) := by
      have h1 := HVN.out.low HRAy.out.bs
      exact h1
    have HRAz := Lib.hid ((HRAy.out.keep HNN.out).setq HR.out (g := lg) (by rw [HLV.out]; exact ownB_slice.2 rfl) hown)
    have HEz := Lib.hid (hoS.box HEy.out (fun hk => by have h9 := HRAy.out.ltr _ hk; have := HJB.out; have := HAB.out; have := HRB.out; have := HEB.out; omega))
    have HRz := Lib.hid (hoS.box HRy.out (fun hk => by have h9 := HRAy.out.ltr _ hk; have := HJB.out; have := HAB.out; have := HRB.out; have := HEB.out; omega))
    have HOz := Lib.hid (HOy.out.trans hoS)
    change Code.wp _ _ _ _ (Wyy.setCell ⟨lg, r, none⟩ (.slice An nn cn))
    clear k1 k2 hfz hoS hown HRAy HEy HRy HOy HVN HNN
    generalize Wyy.setCell ⟨lg, r, none⟩ (.slice An nn cn) = Wz at *
    generalize updN qv' r (.slice An nn cn) = qv'' at *
    go_wp2_with (first | (refine wpList_load_row rfl 252 _ rfl eb rfl 252 (wzC v true false) (0, 0) _ HEz.out Tryz.underlying252 rfl (by kernel_rfl) ?_) | (refine wpList_store_row rfl 252 _ _ rfl rb (wzC v true false) rfl rfl 252 _ HRz.out (by kernel_rfl) rfl (wzC_one _ _ _) ?_))
    (try simp only [Exit.inBlock, Exit.then])
    refine bodyPost_ret (results_cell_row rfl _ _ rb _ (wzC v true false) (0, 0) _ rfl (HRz.out.setRow' _) Tryz.underlying252 rfl (by kernel_rfl)) rfl ?_
    have hos : Only (Just rb) Wz (Wz.setRow rb (wzC v true false)) := (Only.refl (Just rb) Wz).setRow' (.inl rfl) _
    refine ⟨by rw [HEQ.out], ⟨_, (HRAz.out.congr fun i _ => ?_).offT HRz.out (by have := HJB.out; have := HRB.out; omega) hos⟩, HOz.out.setRow' (.inr (by have := HRB.out; omega)) _⟩
    have h2 : remS (remS S v) b = remS S v := funext fun k => List.erase_of_not_mem fun h3 => HBN.out k (List.mem_of_mem_erase h3)
    rw [HEQ.out]
    show _ = frontS (remS (remS S v) b) r b i
    rw [h2, HS5.out]
    rfl
  | true =>
    rw [hlo] at hlps
    obtain rfl : v = vh := by rw [HGO.out, hlo, if_pos rfl]
    have HEQ := Lib.hid HEQ0.out
    have HVM := Lib.hid HVM0.out
    clear hlo HGO hlst hhd
    have a1 : Ws.cell? ⟨eb, 1, none⟩ = some (.int .i64 vl) := HEs.out.cellAt rfl
    have f1 : Ws.frozen? ⟨eb, 1, none⟩ = false := HEs.out.free 1
    go_upto_region 18 with fail
    have hoE : Only (Just eb) Ws (Ws.setCell ⟨eb, 1, none⟩ (.int .i64 v)) := (Only.refl (Just eb) Ws).setCell (p := ⟨eb, 1, none⟩) (.inl (show Just eb eb from rfl)) _
    have HEu := Lib.hid (show Box _ eb 252 (wzC v false false) from HEs.out.store 1 (.int .i64 v))
    have HRu := Lib.hid (hoE.box HRs.out (fun e => by have h9 : rb = eb := e; have := HEB.out; omega))
    have HAu := Lib.hid (hoE.box HAs.out (HAs.out.off HEs.out (by decide)))
    have HOu := Lib.hid (HOs.out.setCell (p := ⟨eb, 1, none⟩) (.inr HEB.out.1) (.int .i64 v))
    have HRAu := Lib.hid (HRAs.out.offT HEs.out (by have := HJB.out; have := HEB.out; omega) hoE)
    change Code.wp _ _ _ _ (Ws.setCell ⟨eb, 1, none⟩ (.int .i64 v))
    clear hoE HEs HRs HAs HOs HRAs
    clear a1 f1 x0s x3s xqs hchs hlps
    generalize Ws.setCell ⟨eb, 1, none⟩ (.int .i64 v) = Wu at *
    have a2 : Wu.cell? ⟨eb, 2, none⟩ = some (.bool false) := HEu.out.cellAt rfl
    have f2 : Wu.frozen? ⟨eb, 2, none⟩ = false := HEu.out.free 2
    go_upto_region 19 with fail
    have hoE : Only (Just eb) Wu (Wu.setCell ⟨eb, 2, none⟩ (.bool true)) := (Only.refl (Just eb) Wu).setCell (p := ⟨eb, 2, none⟩) (.inl (show Just eb eb from rfl)) _
    have HEx := Lib.hid (show Box _ eb 252 (wzC v true false) from HEu.out.store 2 (.bool true))
    have HRx := Lib.hid (hoE.box HRu.out (fun e => by have h9 : rb = eb := e; have := HEB.out; omega))
    have HAx := Lib.hid (hoE.box HAu.out (HAu.out.off HEu.out (by decide)))
    have HOx := Lib.hid (HOu.out.setCell (p := ⟨eb, 2, none⟩) (.inr HEB.out.1) (.bool true))
    have HRAx := Lib.hid (HRAu.out.offT HEu.out (by have := HJB.out; have := HEB.out; omega) hoE)
    change Code.wp _ _ _ _ (Wu.setCell ⟨eb, 2, none⟩ (.bool true))
    clear hoE HEu HRu HAu HOu HRAu
    clear a2 f2
    generalize Wu.setCell ⟨eb, 2, none⟩ (.bool true) = Wx at *
    have k1 : Wx.drew.cell? ⟨j.pb, 3, none⟩ = some (.slice (some ⟨lg, 0, none⟩) l.length lc) := HRAx.out.c3.trans (by rw [HLV.out])
    have k2 : Wx.drew.cell? ⟨lg, r, none⟩ = some (qv r) := by
      obtain ⟨g, c, e, h1, _⟩ := HRAx.out.cq HR.out
      rw [HLV.out] at e
      injection e with e e2; injection e with e; injection e with e
      rw [e]; exact h1
    have k3 : Wx.drew.cell? ⟨eb, 1, none⟩ = some (.int .i64 v) := HEx.out.cellAt rfl
    refine wp_region_tail (S := (fun w' : World => w'.cell? ⟨j.pb, 3, none⟩ = some (.slice (some ⟨lg, 0, none⟩) l.length lc) ∧ w'.cell? ⟨lg, r, none⟩ = some (qv r) ∧ w'.cell? ⟨eb, 1, none⟩ = some (.int .i64 v))) 15 (by kernel_rfl) (by kernel_rfl) ?_ ?_
    · exact ⟨by assumption, by assumption, by assumption⟩
    intro hSS
    refine wpHd_take (i := 0) (v := ?_) (by kernel_rfl) rfl (by kernel_rfl) (fun _ _ _ h => h) (.inl ⟨by rfl, ?_⟩) hSS ?_
    rotate_left
    · intro w hSw; (try dsimp only at hSw); go_simp; (try with_reducible rfl)
    refine wpHd_take (i := 1) (v := ?_) (by kernel_rfl) rfl (by kernel_rfl) (fun _ _ _ h => h) (.inl ⟨by rfl, ?_⟩) hSS ?_
    rotate_left
    · intro w hSw; (try dsimp only at hSw); go_simp; (try with_reducible rfl)
    refine wpHd_take (i := 2) (v := ?_) (by kernel_rfl) rfl (by kernel_rfl) (fun _ _ _ h => h) (.inl ⟨by rfl, ?_⟩) hSS ?_
    rotate_left
    · intro w hSw; (try dsimp only at hSw); go_simp; (try with_reducible rfl)
    refine wpHd_take (i := 3) (v := ?_) (by kernel_rfl) rfl (by kernel_rfl) (fun _ _ _ h => h) (.inl ⟨by rfl, ?_⟩) hSS ?_
    rotate_left
    · intro w hSw; (try dsimp only at hSw); go_simp; (try with_reducible rfl)
    refine wpHd_take (i := 4) (v := ?_) (by kernel_rfl) rfl (by kernel_rfl) (fun _ _ _ h => h) (.inl ⟨by rfl, ?_⟩) hSS ?_
    rotate_left
    · intro w hSw; (try dsimp only at hSw); go_simp; (try with_reducible rfl)
    try simp only [Act.put, List.getElem_toArray, List.getElem_cons_succ, List.getElem_cons_zero, List.setIfInBounds_toArray, List.set_cons_zero, List.set_cons_succ]
    refine wpHd_take (i := 5) (v := ?_) (by kernel_rfl) rfl (by kernel_rfl) (fun _ _ _ h => h) (.inl ⟨by rfl, ?_⟩) hSS ?_
    rotate_left
    · intro w hSw; (try dsimp only at hSw); go_simp; (try with_reducible rfl)
    refine wpHd_take (i := 6) (v := ?_) (by kernel_rfl) rfl (by kernel_rfl) (fun _ _ _ h => h) (.inl ⟨by rfl, ?_⟩) hSS ?_
    rotate_left
    · intro w hSw; (try dsimp only at hSw); go_simp; (try with_reducible rfl)
    refine wpHd_take (i := 7) (v := ?_) (by kernel_rfl) rfl (by kernel_rfl) (fun _ _ _ h => h) (.inl ⟨by rfl, ?_⟩) hSS ?_
    rotate_left
    · intro w hSw; (try dsimp only at hSw); go_simp; (try with_reducible rfl)
    refine wpHd_take (i := 8) (v := ?_) (by kernel_rfl) rfl (by kernel_rfl) (fun _ _ _ h => h) (.inl ⟨by rfl, ?_⟩) hSS ?_
    rotate_left
    · intro w hSw; (try dsimp only at hSw); go_simp; (try with_reducible rfl)
    refine wpHd_take (i := 9) (v := ?_) (by kernel_rfl) rfl (by kernel_rfl) (fun _ _ _ h => h) (.inl ⟨by rfl, ?_⟩) hSS ?_
    rotate_left
    · intro w hSw; (try dsimp only at hSw); go_simp; (try with_reducible rfl)
    try simp only [Act.put, List.getElem_toArray, List.getElem_cons_succ, List.getElem_cons_zero, List.setIfInBounds_toArray, List.set_cons_zero, List.set_cons_succ]
    refine wpHd_take (i := 10) (v := ?_) (by kernel_rfl) rfl (by kernel_rfl) (fun _ _ _ h => h) (.inl ⟨by rfl, ?_⟩) hSS ?_
    rotate_left
    · intro w hSw; (try dsimp only at hSw); go_simp; (try with_reducible rfl)
    refine wpHd_take (i := 11) (v := ?_) (by kernel_rfl) rfl (by kernel_rfl) (fun _ _ _ h => h) (.inl ⟨by rfl, ?_⟩) hSS ?_
    rotate_left
    · intro w hSw; (try dsimp only at hSw); go_simp; (try with_reducible rfl)
    refine wpHd_take (i := 12) (v := ?_) (by kernel_rfl) rfl (by kernel_rfl) (fun _ _ _ h => h) (.inl ⟨by rfl, ?_⟩) hSS ?_
    rotate_left
    · intro w hSw; (try dsimp only at hSw); go_simp; (try with_reducible rfl)
    refine wpHd_take (i := 13) (v := ?_) (by kernel_rfl) rfl (by kernel_rfl) (fun _ _ _ h => h) (.inl ⟨by rfl, ?_⟩) hSS ?_
    rotate_left
    · intro w hSw; (try dsimp only at hSw); go_simp; (try with_reducible rfl)
    try simp only [Act.put, List.getElem_toArray, List.getElem_cons_succ, List.getElem_cons_zero, List.setIfInBounds_toArray, List.set_cons_zero, List.set_cons_succ]
    refine wpHd_one (i := 14) rfl (by kernel_rfl) (fun Kc hK => ?_)
    go_simp
    refine (without_any v Wx.drew ((HRAx.out.q r HR.out).only ((Only.refl Non Wx).drew) fun _ _ => id) HLN.out).mono ?_
    rintro e Wxx ⟨vn, rfl, hon, hnn⟩
    obtain ⟨An, nn, cn, rfl⟩ : ∃ A n c, vn = Value.slice A n c := by obtain ⟨A, c, e, _⟩ := hon.shape; exact ⟨A, _, c, e⟩
    have HVN := Lib.hid hon
    have HNN := Lib.hid ((Only.refl Non Wx).drew.trans hnn)
    have k1 := hnn.cell hSS.1 id
    have k2 := hnn.cell hSS.2.1 id
    have k3 := hnn.cell hSS.2.2 id
    clear hon hnn
    refine hK.out _ _ ?_ (fun hSS => ?_)
    · exact ⟨by assumption, by assumption, by assumption⟩
    clear hK
    try simp only [Act.put, List.getElem_toArray, List.getElem_cons_succ, List.getElem_cons_zero, List.setIfInBounds_toArray, List.set_cons_zero, List.set_cons_succ]
    refine wpHd_end (by kernel_rfl) ?_
    have hfz : Wxx.frozen? ⟨lg, r, none⟩ = false := by
      obtain ⟨cs, hb⟩ := (HRAx.out.keep HNN.out).row.box (k := lg) (by rw [HLV.out]; exact ownB_slice.2 rfl)
      exact hb.free r
    clear hSS k3
    go_upto_region 20 with fail
    have hoS : Only (ownB j.lv) Wx (Wxx.setCell ⟨lg, r, none⟩ (.slice An nn cn)) := (((Only.refl (ownB j.lv) Wx).transN HNN.out).setCell (p := ⟨lg, r, none⟩) (.inl (by rw [HLV.out]; exact ownB_slice.2 rfl)) _)
    have hown : OwnInts 3 Wxx j.B (.slice An nn cn) ((S r).erase v) := by
      have h1 := HVN.out.low HRAx.out.bs
      rw [erase_filter (HI.out.nodup r)] at h1
      exact h1
    have HRAy := Lib.hid ((HRAx.out.keep HNN.out).setq HR.out (g := lg) (by rw [HLV.out]; exact ownB_slice.2 rfl) hown)
    have HEy := Lib.hid (hoS.box HEx.out (fun hk => by have h9 := HRAx.out.ltr _ hk; have := HJB.out; have := HAB.out; have := HRB.out; have := HEB.out; omega))
    have HRy := Lib.hid (hoS.box HRx.out (fun hk => by have h9 := HRAx.out.ltr _ hk; have := HJB.out; have := HAB.out; have := HRB.out; have := HEB.out; omega))
    have HAy := Lib.hid (hoS.box HAx.out (fun hk => by have h9 := HRAx.out.ltr _ hk; have := HJB.out; have := HAB.out; have := HRB.out; have := HEB.out; omega))
    have HOy := Lib.hid (HOx.out.trans hoS)
    change Code.wp _ _ _ _ (Wxx.setCell ⟨lg, r, none⟩ (.slice An nn cn))
    clear k1 k2 hfz hoS hown HRAx HEx HRx HAx HOx HVN HNN
    generalize Wxx.setCell ⟨lg, r, none⟩ (.slice An nn cn) = Wy at *
    generalize updN qv r (.slice An nn cn) = qv' at *
    generalize hS5 : updN S r ((S r).erase v) = S5 at *
    have HS5 := Lib.hid (show S5 = remS S v from hS5 ▸ funext fun i => by
      unfold updN remS
      by_cases e : i = r
      · rw [if_pos e, e]
      · rw [if_neg e, List.erase_of_not_mem fun h2 => e ((HI.out.at_ h2).1.trans (HI.out.at_ HVM.out).1.symm)])
    clear hS5
    have HLN5 := Lib.hid (show (S5 r).length ≤ 10000 by
      have h1 := HLN.out
      have h2 : ((S r).erase v).length ≤ (S r).length := List.length_erase_le
      rw [HS5.out]
      show ((S r).erase v).length ≤ 10000
      omega)
    have k1 : Wy.drew.cell? ⟨j.pb, 3, none⟩ = some (.slice (some ⟨lg, 0, none⟩) l.length lc) := HRAy.out.c3.trans (by rw [HLV.out])
    have k2 : Wy.drew.cell? ⟨lg, r, none⟩ = some (qv' r) := by
      obtain ⟨g, c, e, h1, _⟩ := HRAy.out.cq HR.out
      rw [HLV.out] at e
      injection e with e e2; injection e with e; injection e with e
      rw [e]; exact h1
    have k3 : Wy.drew.cell? ⟨ab, 1, none⟩ = some (.int .i64 b) := HAy.out.cellAt rfl
    refine wp_region_tail (S := (fun w' : World => w'.cell? ⟨j.pb, 3, none⟩ = some (.slice (some ⟨lg, 0, none⟩) l.length lc) ∧ w'.cell? ⟨lg, r, none⟩ = some (qv' r) ∧ w'.cell? ⟨ab, 1, none⟩ = some (.int .i64 b))) 15 (by kernel_rfl) (by kernel_rfl) ?_ ?_
    · exact ⟨by assumption, by assumption, by assumption⟩
    intro hSS
    refine wpHd_take (i := 0) (v := ?_) (by kernel_rfl) rfl (by kernel_rfl) (fun _ _ _ h => h) (.inl ⟨by rfl, ?_⟩) hSS ?_
    rotate_left
    · intro w hSw; (try dsimp only at hSw); go_simp; (try with_reducible rfl)
    refine wpHd_take (i := 1) (v := ?_) (by kernel_rfl) rfl (by kernel_rfl) (fun _ _ _ h => h) (.inl ⟨by rfl, ?_⟩) hSS ?_
    rotate_left
    · intro w hSw; (try dsimp only at hSw); go_simp; (try with_reducible rfl)
    refine wpHd_take (i := 2) (v := ?_) (by kernel_rfl) rfl (by kernel_rfl) (fun _ _ _ h => h) (.inl ⟨by rfl, ?_⟩) hSS ?_
    rotate_left
    · intro w hSw; (try dsimp only at hSw); go_simp; (try with_reducible rfl)
    refine wpHd_take (i := 3) (v := ?_) (by kernel_rfl) rfl (by kernel_rfl) (fun _ _ _ h => h) (.inl ⟨by rfl, ?_⟩) hSS ?_
    rotate_left
    · intro w hSw; (try dsimp only at hSw); go_simp; (try with_reducible rfl)
    refine wpHd_take (i := 4) (v := ?_) (by kernel_rfl) rfl (by kernel_rfl) (fun _ _ _ h => h) (.inl ⟨by rfl, ?_⟩) hSS ?_
    rotate_left
    · intro w hSw; (try dsimp only at hSw); go_simp; (try with_reducible rfl)
    try simp only [Act.put, List.getElem_toArray, List.getElem_cons_succ, List.getElem_cons_zero, List.setIfInBounds_toArray, List.set_cons_zero, List.set_cons_succ]
    refine wpHd_take (i := 5) (v := ?_) (by kernel_rfl) rfl (by kernel_rfl) (fun _ _ _ h => h) (.inl ⟨by rfl, ?_⟩) hSS ?_
    rotate_left
    · intro w hSw; (try dsimp only at hSw); go_simp; (try with_reducible rfl)
    refine wpHd_take (i := 6) (v := ?_) (by kernel_rfl) rfl (by kernel_rfl) (fun _ _ _ h => h) (.inl ⟨by rfl, ?_⟩) hSS ?_
    rotate_left
    · intro w hSw; (try dsimp only at hSw); go_simp; (try with_reducible rfl)
    refine wpHd_take (i := 7) (v := ?_) (by kernel_rfl) rfl (by kernel_rfl) (fun _ _ _ h => h) (.inl ⟨by rfl, ?_⟩) hSS ?_
    rotate_left
    · intro w hSw; (try dsimp only at hSw); go_simp; (try with_reducible rfl)
    refine wpHd_take (i := 8) (v := ?_) (by kernel_rfl) rfl (by kernel_rfl) (fun _ _ _ h => h) (.inl ⟨by rfl, ?_⟩) hSS ?_
    rotate_left
    · intro w hSw; (try dsimp only at hSw); go_simp; (try with_reducible rfl)
    refine wpHd_take (i := 9) (v := ?_) (by kernel_rfl) rfl (by kernel_rfl) (fun _ _ _ h => h) (.inl ⟨by rfl, ?_⟩) hSS ?_
    rotate_left
    · intro w hSw; (try dsimp only at hSw); go_simp; (try with_reducible rfl)
    try simp only [Act.put, List.getElem_toArray, List.getElem_cons_succ, List.getElem_cons_zero, List.setIfInBounds_toArray, List.set_cons_zero, List.set_cons_succ]
    refine wpHd_take (i := 10) (v := ?_) (by kernel_rfl) rfl (by kernel_rfl) (fun _ _ _ h => h) (.inl ⟨by rfl, ?_⟩) hSS ?_
    rotate_left
    · intro w hSw; (try dsimp only at hSw); go_simp; (try with_reducible rfl)
    refine wpHd_take (i := 11) (v := ?_) (by kernel_rfl) rfl (by kernel_rfl) (fun _ _ _ h => h) (.inl ⟨by rfl, ?_⟩) hSS ?_
    rotate_left
    · intro w hSw; (try dsimp only at hSw); go_simp; (try with_reducible rfl)
    refine wpHd_take (i := 12) (v := ?_) (by kernel_rfl) rfl (by kernel_rfl) (fun _ _ _ h => h) (.inl ⟨by rfl, ?_⟩) hSS ?_
    rotate_left
    · intro w hSw; (try dsimp only at hSw); go_simp; (try with_reducible rfl)
    refine wpHd_take (i := 13) (v := ?_) (by kernel_rfl) rfl (by kernel_rfl) (fun _ _ _ h => h) (.inl ⟨by rfl, ?_⟩) hSS ?_
    rotate_left
    · intro w hSw; (try dsimp only at hSw); go_simp; (try with_reducible rfl)
    try simp only [Act.put, List.getElem_toArray, List.getElem_cons_succ, List.getElem_cons_zero, List.setIfInBounds_toArray, List.set_cons_zero, List.set_cons_succ]
    refine wpHd_one (i := 14) rfl (by kernel_rfl) (fun Kc hK => ?_)
    go_simp
    refine (ahead_any b Wy.drew ((HRAy.out.q r HR.out).only ((Only.refl Non Wy).drew) fun _ _ => id) HLN5.out).mono ?_
    rintro e Wyy ⟨vn, rfl, hon, hnn⟩
    obtain ⟨An, nn, cn, rfl⟩ : ∃ A n c, vn = Value.slice A n c := by obtain ⟨A, c, e, _⟩ := hon.shape; exact ⟨A, _, c, e⟩
    have HVN := Lib.hid hon
    have HNN := Lib.hid ((Only.refl Non Wy).drew.trans hnn)
    have k1 := hnn.cell hSS.1 id
    have k2 := hnn.cell hSS.2.1 id
    have k3 := hnn.cell hSS.2.2 id
    clear hon hnn
    refine hK.out _ _ ?_ (fun hSS => ?_)
    · exact ⟨by assumption, by assumption, by assumption⟩
    clear hK
    try simp only [Act.put, List.getElem_toArray, List.getElem_cons_succ, List.getElem_cons_zero, List.setIfInBounds_toArray, List.set_cons_zero, List.set_cons_succ]
    refine wpHd_end (by kernel_rfl) ?_
    have hfz : Wyy.frozen? ⟨lg, r, none⟩ = false := by
      obtain ⟨cs, hb⟩ := (HRAy.out.keep HNN.out).row.box (k := lg) (by rw [HLV.out]; exact ownB_slice.2 rfl)
      exact hb.free r
    clear hSS k3
    go_upto_region 21 with fail
    have hoS : Only (ownB j.lv) Wy (Wyy.setCell ⟨lg, r, none⟩ (.slice An nn cn)) := (((Only.refl (ownB j.lv) Wy).transN HNN.out).setCell (p := ⟨lg, r, none⟩) (.inl (by rw [HLV.out]; exact ownB_slice.2 rfl)) _)
    have hown : OwnInts 3 Wyy j.B (.slice An nn cn) (b :: S5 r) := by
      have h1 := HVN.out.low HRAy.out.bs
      exact h1
    have HRAz := Lib.hid ((HRAy.out.keep HNN.out).setq HR.out (g := lg) (by rw [HLV.out]; exact ownB_slice.2 rfl) hown)
    have HEz := Lib.hid (hoS.box HEy.out (fun hk => by have h9 := HRAy.out.ltr _ hk; have := HJB.out; have := HAB.out; have := HRB.out; have := HEB.out; omega))
    have HRz := Lib.hid (hoS.box HRy.out (fun hk => by have h9 := HRAy.out.ltr _ hk; have := HJB.out; have := HAB.out; have := HRB.out; have := HEB.out; omega))
    have HOz := Lib.hid (HOy.out.trans hoS)
    change Code.wp _ _ _ _ (Wyy.setCell ⟨lg, r, none⟩ (.slice An nn cn))
    clear k1 k2 hfz hoS hown HRAy HEy HRy HOy HVN HNN
    generalize Wyy.setCell ⟨lg, r, none⟩ (.slice An nn cn) = Wz at *
    generalize updN qv' r (.slice An nn cn) = qv'' at *
    go_wp2_with (first | (refine wpList_load_row rfl 252 _ rfl eb rfl 252 (wzC v true false) (0, 0) _ HEz.out Tryz.underlying252 rfl (by kernel_rfl) ?_) | (refine wpList_store_row rfl 252 _ _ rfl rb (wzC v true false) rfl rfl 252 _ HRz.out (by kernel_rfl) rfl (wzC_one _ _ _) ?_))
    (try simp only [Exit.inBlock, Exit.then])
    refine bodyPost_ret (results_cell_row rfl _ _ rb _ (wzC v true false) (0, 0) _ rfl (HRz.out.setRow' _) Tryz.underlying252 rfl (by kernel_rfl)) rfl ?_
    have hos : Only (Just rb) Wz (Wz.setRow rb (wzC v true false)) := (Only.refl (Just rb) Wz).setRow' (.inl rfl) _
    refine ⟨by rw [HEQ.out], ⟨_, (HRAz.out.congr fun i _ => ?_).offT HRz.out (by have := HJB.out; have := HRB.out; omega) hos⟩, HOz.out.setRow' (.inr (by have := HRB.out; omega)) _⟩
    have h2 : remS (remS S v) b = remS S v := funext fun k => List.erase_of_not_mem fun h3 => HBN.out k (List.mem_of_mem_erase h3)
    rw [HEQ.out]
    show _ = frontS (remS (remS S v) b) r b i
    rw [h2, HS5.out]
    rfl
end
end Go.Proofs.YtodephhlhdbeoaaGreat
