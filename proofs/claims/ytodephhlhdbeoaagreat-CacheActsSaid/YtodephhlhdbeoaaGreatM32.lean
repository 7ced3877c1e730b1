/- Several texts, one behind the other: Rcx Rcw Cja Cjb Cjc Cjd. -/
import Derived.Test.YtodephhlhdbeoaaGreatM31
import Derived.Test.YtodephhlhdbeoaaGreatM17
import Derived.Test.YtodephhlhdbeoaaGreatM25
namespace Go.Proofs.YtodephhlhdbeoaaGreat
open Go.RowKit Go.ChangeShapes Go.WideShapes
set_option linter.unusedVariables false
set_option linter.unusedSimpArgs false
def rwC (v : Int) (d : Value) (g : Bool) (e : Int) : Array Value := #[.int .i64 v, d, .bool g, .int .i64 e]
theorem rwC_one (v : Int) (A : Option Addr) (n c : Nat) (g : Bool) (e : Int) : (rwC v (.slice A n c) g e).all (·.oneCell') = true := by simp [rwC, Value.oneCell']
theorem Box.there {w : World} {g : Nat} {t : TypeId} {cs : Array Value} (h : Box w g t cs) {o n : Nat} (hn : o + n ≤ cs.size) : w.there g o n := fun j hj => ⟨by rw [h.cell (o + j), Array.getElem?_eq_getElem (by omega)]; rfl, h.free _⟩
def RPutP {K : OKind} {c : CfgA} {k : Nat} (o : RefO K c k) (i : RcI) (s : K.σ) (Dr : Nat → List Int) (n : Nat) (dl : List Int) (w : World) (e : Ending) (w' : World) : Prop :=
  ∃ vd, e = .returned (.agg (rwC (if (K.sp.add s n).2.2 = true then (K.sp.add s n).2.1 else 0) vd (K.sp.add s n).2.2 0)) ∧ RByt w' vd (if (K.sp.add s n).2.2 = true then Dr (K.sp.add s n).2.1.toNat else []) ∧
    (∀ j, ownB vd j → o.B ≤ j) ∧ Rch o i (K.sp.add s n).1 (updN Dr n dl) w' ∧ Only (RcW o i) w w'
section
set_option maxHeartbeats 4000000
set_option maxRecDepth 100000
variable {K : OKind} {c : CfgA} {k : Nat} {o : RefO K c k} {i : RcI} {s : K.σ} {Dr : Nat → List Int} {w : World}
theorem rch_put_neg {b : Int} {dl : List Int} {u : Value} {level : Int} (h : Rch o i s Dr w) (hby : Byt w u dl) (hb : b < 0) :
    Calls Tryz.prog 93 #[.pointer (some ⟨i.cb, 0, none⟩), .agg #[.int .i64 b, u], .int .i64 level] w fun e w' => e = .returned (.agg (rwC 0 (.slice none 0 0) false 9)) ∧ Only Non w w' := by
  have hx0 : decide (b < 0) = true := decide_eq_true hb
  obtain ⟨A, cp, rfl, hle, hmax, hsrc⟩ := hby
  have HSRC := Lib.hid hsrc
  have HMAX := Lib.hid hmax
  obtain ⟨lv, dv, h⟩ := h
  have HW := Lib.hid fun (g : Nat) (hg : w.heap.size ≤ g) => h.notW hg
  have HB := Lib.hid (Box.fresh w 38 #[.int .i64 b, .slice A dl.length cp])
  have HO := Lib.hid ((Only.refl Non w).alloc (.cells #[.int .i64 b, .slice A dl.length cp] 38))
  have H := Lib.hid (h.keep HO.out)
  have HP3 := Lib.hid h.right.p3
  clear hsrc hmax hle h hb
  go_enter Tryz.func93, Tryz.ntmps93
  go_upto_region 1 with fail
  change Code.wp _ _ _ _ ((w.alloc (.cells #[.int .i64 b, .slice A dl.length cp] 38)).alloc (.cells (rwC 0 (.slice none 0 0) false 0) 160))
  have hsz : (w.alloc (.cells #[.int .i64 b, .slice A dl.length cp] 38)).heap.size = w.heap.size + 1 := World.size_alloc ..
  generalize w.alloc (.cells #[.int .i64 b, .slice A dl.length cp] 38) = W0 at *
  obtain ⟨fb, hfb⟩ : ∃ fb, fb = w.heap.size := ⟨_, rfl⟩
  have HLB := Lib.hid (show w.heap.size ≤ fb from Nat.le_of_eq hfb.symm)
  rw [← hfb] at HB hsz ⊢
  clear hfb
  have ho1 : Only Non W0 (W0.alloc (.cells (rwC 0 (.slice none 0 0) false 0) 160)) := (Only.refl Non W0).alloc _
  have HR1 := Lib.hid (Box.fresh W0 160 (rwC 0 (.slice none 0 0) false 0))
  have HF1 := Lib.hid (ho1.box HB.out id)
  have HO1 := Lib.hid (HO.out.trans ho1)
  have H1 := Lib.hid (H.out.keep ho1)
  clear ho1 HB HO H
  generalize W0.alloc (.cells (rwC 0 (.slice none 0 0) false 0) 160) = W1 at *
  rw [hsz] at HR1
  clear hsz
  have HRB := Lib.hid (show w.heap.size ≤ fb + 1 by have := HLB.out; omega)
  generalize fb + 1 = rb at *
  have k1 : W1.drew.cell? ⟨fb, 0, none⟩ = some (.int .i64 b) := HF1.out.cellAt rfl
  have k3 : W1.drew.cell? ⟨i.cb, 2, none⟩ = some (.int .i64 (c.f 2)) := rcC_f H1.out.box (by decide)
  refine wp_region_tail (S := (fun w' : World => w'.cell? ⟨fb, 0, none⟩ = some (.int .i64 b) ∧ w'.cell? ⟨i.cb, 2, none⟩ = some (.int .i64 (c.f 2)))) 12 (by kernel_rfl) (by kernel_rfl) ?_ ?_
  · exact ⟨by assumption, by assumption⟩
  intro hSS
  refine wpHd_take (i := 0) (v := ?_) (by kernel_rfl) rfl (by kernel_rfl) (fun _ _ _ h => h) (.inl ⟨by rfl, ?_⟩) hSS ?_
  rotate_left
  · intro w hSw; (try dsimp only at hSw); go_simp; (try with_reducible rfl)
  refine wpHd_take (i := 1) (v := ?_) (by kernel_rfl) rfl (by kernel_rfl) (fun _ _ _ h => h) (.inl ⟨by rfl, ?_⟩) hSS ?_
  rotate_left
  · intro w hSw; (try dsimp only at hSw); go_simp; (try with_reducible rfl)
  refine wpHd_take (i := 2) (v := ?_) (by kernel_rfl) rfl (by kernel_rfl) (fun _ _ _ h => h) (.inl ⟨by rfl, ?_⟩) hSS ?_
  rotate_left
  · intro w hSw; (try dsimp only at hSw); go_simp; (try with_reducible rfl)
  refine wpHd_take (i := 3) (v := ?_) (by kernel_rfl) rfl (by kernel_rfl) (fun _ _ _ h => h) (.inl ⟨by rfl, ?_⟩) hSS ?_
  rotate_left
  · intro w hSw; (try dsimp only at hSw); go_simp; (try with_reducible rfl)
  refine wpHd_take (i := 4) (v := undef) (by kernel_rfl) rfl (by kernel_rfl) (fun _ _ _ h => h) (Or.inr ⟨by rfl, rfl⟩) (by assumption) ?_
  try simp only [Act.put, List.getElem_toArray, List.getElem_cons_succ, List.getElem_cons_zero, List.setIfInBounds_toArray, List.set_cons_zero, List.set_cons_succ]
  refine wpHd_take (i := 5) (v := undef) (by kernel_rfl) rfl (by kernel_rfl) (fun _ _ _ h => h) (Or.inr ⟨by rfl, rfl⟩) (by assumption) ?_
  refine wpHd_take (i := 6) (v := undef) (by kernel_rfl) rfl (by kernel_rfl) (fun _ _ _ h => h) (Or.inr ⟨by rfl, rfl⟩) (by assumption) ?_
  refine wpHd_take (i := 7) (v := undef) (by kernel_rfl) rfl (by kernel_rfl) (fun _ _ _ h => h) (Or.inr ⟨by rfl, rfl⟩) (by assumption) ?_
  refine wpHd_take (i := 8) (v := undef) (by kernel_rfl) rfl (by kernel_rfl) (fun _ _ _ h => h) (Or.inr ⟨by rfl, rfl⟩) (by assumption) ?_
  refine wpHd_take (i := 9) (v := undef) (by kernel_rfl) rfl (by kernel_rfl) (fun _ _ _ h => h) (Or.inr ⟨by rfl, rfl⟩) (by assumption) ?_
  try simp only [Act.put, List.getElem_toArray, List.getElem_cons_succ, List.getElem_cons_zero, List.setIfInBounds_toArray, List.set_cons_zero, List.set_cons_succ]
  refine wpHd_take (i := 10) (v := undef) (by kernel_rfl) rfl (by kernel_rfl) (fun _ _ _ h => h) (Or.inr ⟨by rfl, rfl⟩) (by assumption) ?_
  refine wpHd_take (i := 11) (v := undef) (by kernel_rfl) rfl (by kernel_rfl) (fun _ _ _ h => h) (Or.inr ⟨by rfl, rfl⟩) (by assumption) ?_
  try simp only [Act.put, List.getElem_toArray, List.getElem_cons_succ, List.getElem_cons_zero, List.setIfInBounds_toArray, List.set_cons_zero, List.set_cons_succ]
  refine wpHd_end (by kernel_rfl) ?_
  clear hSS k1 k3
  go_upto_region 2 with fail
  have HR2 := Lib.hid (show Box W1.drew rb 160 (rwC 0 (.slice none 0 0) false 0) from HR1.out)
  have HF2 := Lib.hid (show Box W1.drew fb 38 _ from HF1.out)
  have HO2 := Lib.hid HO1.out.drew
  have H2 := Lib.hid (H1.out.keep ((Only.refl Non W1).drew))
  clear HR1 HF1 HO1 H1
  generalize W1.drew = W2 at *
  go_wp2_with (refine wpList_store_row rfl 160 _ _ rfl rb (rwC 0 (.slice none 0 0) false 9) rfl rfl 160 _ HR2.out (by kernel_rfl) rfl (rwC_one _ _ _ _ _ _) ?_)
  refine bodyPost_ret (results_cell_row rfl _ _ rb _ (rwC 0 (.slice none 0 0) false 9) (0, 0) _ rfl (HR2.out.setRow' _) Tryz.underlying160 rfl (by kernel_rfl)) rfl ?_
  exact ⟨rfl, HO2.out.setRow' (.inr HRB.out) _⟩
theorem rch_put_out {b : Int} {dl : List Int} {u : Value} {level : Int} (h : Rch o i s Dr w) (hby : Byt w u dl) (hb : 0 ≤ b) (hb2 : c.f 2 ≤ b) :
    Calls Tryz.prog 93 #[.pointer (some ⟨i.cb, 0, none⟩), .agg #[.int .i64 b, u], .int .i64 level] w fun e w' => e = .returned (.agg (rwC 0 (.slice none 0 0) false 9)) ∧ Only Non w w' := by
  have hx0 : decide (b < 0) = false := decide_eq_false (by omega)
  have hx2 : decide (c.f 2 ≤ b) = true := decide_eq_true hb2
  obtain ⟨A, cp, rfl, hle, hmax, hsrc⟩ := hby
  have HSRC := Lib.hid hsrc
  have HMAX := Lib.hid hmax
  obtain ⟨lv, dv, h⟩ := h
  have HW := Lib.hid fun (g : Nat) (hg : w.heap.size ≤ g) => h.notW hg
  have HB := Lib.hid (Box.fresh w 38 #[.int .i64 b, .slice A dl.length cp])
  have HO := Lib.hid ((Only.refl Non w).alloc (.cells #[.int .i64 b, .slice A dl.length cp] 38))
  have H := Lib.hid (h.keep HO.out)
  have HP3 := Lib.hid h.right.p3
  clear hsrc hmax hle h hb hb2
  go_enter Tryz.func93, Tryz.ntmps93
  go_upto_region 1 with fail
  change Code.wp _ _ _ _ ((w.alloc (.cells #[.int .i64 b, .slice A dl.length cp] 38)).alloc (.cells (rwC 0 (.slice none 0 0) false 0) 160))
  have hsz : (w.alloc (.cells #[.int .i64 b, .slice A dl.length cp] 38)).heap.size = w.heap.size + 1 := World.size_alloc ..
  generalize w.alloc (.cells #[.int .i64 b, .slice A dl.length cp] 38) = W0 at *
  obtain ⟨fb, hfb⟩ : ∃ fb, fb = w.heap.size := ⟨_, rfl⟩
  have HLB := Lib.hid (show w.heap.size ≤ fb from Nat.le_of_eq hfb.symm)
  rw [← hfb] at HB hsz ⊢
  clear hfb
  have ho1 : Only Non W0 (W0.alloc (.cells (rwC 0 (.slice none 0 0) false 0) 160)) := (Only.refl Non W0).alloc _
  have HR1 := Lib.hid (Box.fresh W0 160 (rwC 0 (.slice none 0 0) false 0))
  have HF1 := Lib.hid (ho1.box HB.out id)
  have HO1 := Lib.hid (HO.out.trans ho1)
  have H1 := Lib.hid (H.out.keep ho1)
  clear ho1 HB HO H
  generalize W0.alloc (.cells (rwC 0 (.slice none 0 0) false 0) 160) = W1 at *
  rw [hsz] at HR1
  clear hsz
  have HRB := Lib.hid (show w.heap.size ≤ fb + 1 by have := HLB.out; omega)
  generalize fb + 1 = rb at *
  have k1 : W1.drew.cell? ⟨fb, 0, none⟩ = some (.int .i64 b) := HF1.out.cellAt rfl
  have k3 : W1.drew.cell? ⟨i.cb, 2, none⟩ = some (.int .i64 (c.f 2)) := rcC_f H1.out.box (by decide)
  refine wp_region_tail (S := (fun w' : World => w'.cell? ⟨fb, 0, none⟩ = some (.int .i64 b) ∧ w'.cell? ⟨i.cb, 2, none⟩ = some (.int .i64 (c.f 2)))) 12 (by kernel_rfl) (by kernel_rfl) ?_ ?_
  · exact ⟨by assumption, by assumption⟩
  intro hSS
  refine wpHd_take (i := 0) (v := ?_) (by kernel_rfl) rfl (by kernel_rfl) (fun _ _ _ h => h) (.inl ⟨by rfl, ?_⟩) hSS ?_
  rotate_left
  · intro w hSw; (try dsimp only at hSw); go_simp; (try with_reducible rfl)
  refine wpHd_take (i := 1) (v := ?_) (by kernel_rfl) rfl (by kernel_rfl) (fun _ _ _ h => h) (.inl ⟨by rfl, ?_⟩) hSS ?_
  rotate_left
  · intro w hSw; (try dsimp only at hSw); go_simp; (try with_reducible rfl)
  refine wpHd_take (i := 2) (v := ?_) (by kernel_rfl) rfl (by kernel_rfl) (fun _ _ _ h => h) (.inl ⟨by rfl, ?_⟩) hSS ?_
  rotate_left
  · intro w hSw; (try dsimp only at hSw); go_simp; (try with_reducible rfl)
  refine wpHd_take (i := 3) (v := ?_) (by kernel_rfl) rfl (by kernel_rfl) (fun _ _ _ h => h) (.inl ⟨by rfl, ?_⟩) hSS ?_
  rotate_left
  · intro w hSw; (try dsimp only at hSw); go_simp; (try with_reducible rfl)
  refine wpHd_take (i := 4) (v := ?_) (by kernel_rfl) rfl (by kernel_rfl) (fun _ _ _ h => h) (.inl ⟨by rfl, ?_⟩) hSS ?_
  rotate_left
  · intro w hSw; (try dsimp only at hSw); go_simp; (try with_reducible rfl)
  try simp only [Act.put, List.getElem_toArray, List.getElem_cons_succ, List.getElem_cons_zero, List.setIfInBounds_toArray, List.set_cons_zero, List.set_cons_succ]
  refine wpHd_take (i := 5) (v := ?_) (by kernel_rfl) rfl (by kernel_rfl) (fun _ _ _ h => h) (.inl ⟨by rfl, ?_⟩) hSS ?_
  rotate_left
  · intro w hSw; (try dsimp only at hSw); go_simp; (try with_reducible rfl)
  refine wpHd_take (i := 6) (v := ?_) (by kernel_rfl) rfl (by kernel_rfl) (fun _ _ _ h => h) (.inl ⟨by rfl, ?_⟩) hSS ?_
  rotate_left
  · intro w hSw; (try dsimp only at hSw); go_simp; (try with_reducible rfl)
  refine wpHd_take (i := 7) (v := ?_) (by kernel_rfl) rfl (by kernel_rfl) (fun _ _ _ h => h) (.inl ⟨by rfl, ?_⟩) hSS ?_
  rotate_left
  · intro w hSw; (try dsimp only at hSw); go_simp; (try with_reducible rfl)
  refine wpHd_take (i := 8) (v := ?_) (by kernel_rfl) rfl (by kernel_rfl) (fun _ _ _ h => h) (.inl ⟨by rfl, ?_⟩) hSS ?_
  rotate_left
  · intro w hSw; (try dsimp only at hSw); go_simp; (try with_reducible rfl)
  refine wpHd_take (i := 9) (v := ?_) (by kernel_rfl) rfl (by kernel_rfl) (fun _ _ _ h => h) (.inl ⟨by rfl, ?_⟩) hSS ?_
  rotate_left
  · intro w hSw; (try dsimp only at hSw); go_simp; (try with_reducible rfl)
  try simp only [Act.put, List.getElem_toArray, List.getElem_cons_succ, List.getElem_cons_zero, List.setIfInBounds_toArray, List.set_cons_zero, List.set_cons_succ]
  refine wpHd_take (i := 10) (v := ?_) (by kernel_rfl) rfl (by kernel_rfl) (fun _ _ _ h => h) (.inl ⟨by rfl, ?_⟩) hSS ?_
  rotate_left
  · intro w hSw; (try dsimp only at hSw); go_simp; (try with_reducible rfl)
  refine wpHd_take (i := 11) (v := ?_) (by kernel_rfl) rfl (by kernel_rfl) (fun _ _ _ h => h) (.inl ⟨by rfl, ?_⟩) hSS ?_
  rotate_left
  · intro w hSw; (try dsimp only at hSw); go_simp; (try with_reducible rfl)
  try simp only [Act.put, List.getElem_toArray, List.getElem_cons_succ, List.getElem_cons_zero, List.setIfInBounds_toArray, List.set_cons_zero, List.set_cons_succ]
  refine wpHd_end (by kernel_rfl) ?_
  clear hSS k1 k3
  go_upto_region 2 with fail
  have HR2 := Lib.hid (show Box W1.drew rb 160 (rwC 0 (.slice none 0 0) false 0) from HR1.out)
  have HF2 := Lib.hid (show Box W1.drew fb 38 _ from HF1.out)
  have HO2 := Lib.hid HO1.out.drew
  have H2 := Lib.hid (H1.out.keep ((Only.refl Non W1).drew))
  clear HR1 HF1 HO1 H1
  generalize W1.drew = W2 at *
  go_wp2_with (refine wpList_store_row rfl 160 _ _ rfl rb (rwC 0 (.slice none 0 0) false 9) rfl rfl 160 _ HR2.out (by kernel_rfl) rfl (rwC_one _ _ _ _ _ _) ?_)
  refine bodyPost_ret (results_cell_row rfl _ _ rb _ (rwC 0 (.slice none 0 0) false 9) (0, 0) _ rfl (HR2.out.setRow' _) Tryz.underlying160 rfl (by kernel_rfl)) rfl ?_
  exact ⟨rfl, HO2.out.setRow' (.inr HRB.out) _⟩
theorem rch_put_len {b : Int} {dl : List Int} {u : Value} {level : Int} (h : Rch o i s Dr w) (hby : Byt w u dl) (hb : 0 ≤ b) (hb2 : b < c.f 2) (hl : (dl.length : Int) ≠ c.f 3) :
    Calls Tryz.prog 93 #[.pointer (some ⟨i.cb, 0, none⟩), .agg #[.int .i64 b, u], .int .i64 level] w fun e w' => e = .returned (.agg (rwC 0 (.slice none 0 0) false 10)) ∧ Only Non w w' := by
  have hx0 : decide (b < 0) = false := decide_eq_false (by omega)
  have hx2 : decide (c.f 2 ≤ b) = false := decide_eq_false (by omega)
  have hx3 : ((dl.length : Int) != c.f 3) = true := by rw [bne_iff_ne]; exact hl
  obtain ⟨A, cp, rfl, hle, hmax, hsrc⟩ := hby
  have HSRC := Lib.hid hsrc
  have HMAX := Lib.hid hmax
  obtain ⟨lv, dv, h⟩ := h
  have HW := Lib.hid fun (g : Nat) (hg : w.heap.size ≤ g) => h.notW hg
  have HB := Lib.hid (Box.fresh w 38 #[.int .i64 b, .slice A dl.length cp])
  have HO := Lib.hid ((Only.refl Non w).alloc (.cells #[.int .i64 b, .slice A dl.length cp] 38))
  have H := Lib.hid (h.keep HO.out)
  have HP3 := Lib.hid h.right.p3
  clear hsrc hmax hle h hb hb2 hl
  go_enter Tryz.func93, Tryz.ntmps93
  go_upto_region 1 with fail
  change Code.wp _ _ _ _ ((w.alloc (.cells #[.int .i64 b, .slice A dl.length cp] 38)).alloc (.cells (rwC 0 (.slice none 0 0) false 0) 160))
  have hsz : (w.alloc (.cells #[.int .i64 b, .slice A dl.length cp] 38)).heap.size = w.heap.size + 1 := World.size_alloc ..
  generalize w.alloc (.cells #[.int .i64 b, .slice A dl.length cp] 38) = W0 at *
  obtain ⟨fb, hfb⟩ : ∃ fb, fb = w.heap.size := ⟨_, rfl⟩
  have HLB := Lib.hid (show w.heap.size ≤ fb from Nat.le_of_eq hfb.symm)
  rw [← hfb] at HB hsz ⊢
  clear hfb
  have ho1 : Only Non W0 (W0.alloc (.cells (rwC 0 (.slice none 0 0) false 0) 160)) := (Only.refl Non W0).alloc _
  have HR1 := Lib.hid (Box.fresh W0 160 (rwC 0 (.slice none 0 0) false 0))
  have HF1 := Lib.hid (ho1.box HB.out id)
  have HO1 := Lib.hid (HO.out.trans ho1)
  have H1 := Lib.hid (H.out.keep ho1)
  clear ho1 HB HO H
  generalize W0.alloc (.cells (rwC 0 (.slice none 0 0) false 0) 160) = W1 at *
  rw [hsz] at HR1
  clear hsz
  have HRB := Lib.hid (show w.heap.size ≤ fb + 1 by have := HLB.out; omega)
  generalize fb + 1 = rb at *
  have k1 : W1.drew.cell? ⟨fb, 0, none⟩ = some (.int .i64 b) := HF1.out.cellAt rfl
  have k3 : W1.drew.cell? ⟨i.cb, 2, none⟩ = some (.int .i64 (c.f 2)) := rcC_f H1.out.box (by decide)
  refine wp_region_tail (S := (fun w' : World => w'.cell? ⟨fb, 0, none⟩ = some (.int .i64 b) ∧ w'.cell? ⟨i.cb, 2, none⟩ = some (.int .i64 (c.f 2)))) 12 (by kernel_rfl) (by kernel_rfl) ?_ ?_
  · exact ⟨by assumption, by assumption⟩
  intro hSS
  refine wpHd_take (i := 0) (v := ?_) (by kernel_rfl) rfl (by kernel_rfl) (fun _ _ _ h => h) (.inl ⟨by rfl, ?_⟩) hSS ?_
  rotate_left
  · intro w hSw; (try dsimp only at hSw); go_simp; (try with_reducible rfl)
  refine wpHd_take (i := 1) (v := ?_) (by kernel_rfl) rfl (by kernel_rfl) (fun _ _ _ h => h) (.inl ⟨by rfl, ?_⟩) hSS ?_
  rotate_left
  · intro w hSw; (try dsimp only at hSw); go_simp; (try with_reducible rfl)
  refine wpHd_take (i := 2) (v := ?_) (by kernel_rfl) rfl (by kernel_rfl) (fun _ _ _ h => h) (.inl ⟨by rfl, ?_⟩) hSS ?_
  rotate_left
  · intro w hSw; (try dsimp only at hSw); go_simp; (try with_reducible rfl)
  refine wpHd_take (i := 3) (v := ?_) (by kernel_rfl) rfl (by kernel_rfl) (fun _ _ _ h => h) (.inl ⟨by rfl, ?_⟩) hSS ?_
  rotate_left
  · intro w hSw; (try dsimp only at hSw); go_simp; (try with_reducible rfl)
  refine wpHd_take (i := 4) (v := ?_) (by kernel_rfl) rfl (by kernel_rfl) (fun _ _ _ h => h) (.inl ⟨by rfl, ?_⟩) hSS ?_
  rotate_left
  · intro w hSw; (try dsimp only at hSw); go_simp; (try with_reducible rfl)
  try simp only [Act.put, List.getElem_toArray, List.getElem_cons_succ, List.getElem_cons_zero, List.setIfInBounds_toArray, List.set_cons_zero, List.set_cons_succ]
  refine wpHd_take (i := 5) (v := ?_) (by kernel_rfl) rfl (by kernel_rfl) (fun _ _ _ h => h) (.inl ⟨by rfl, ?_⟩) hSS ?_
  rotate_left
  · intro w hSw; (try dsimp only at hSw); go_simp; (try with_reducible rfl)
  refine wpHd_take (i := 6) (v := ?_) (by kernel_rfl) rfl (by kernel_rfl) (fun _ _ _ h => h) (.inl ⟨by rfl, ?_⟩) hSS ?_
  rotate_left
  · intro w hSw; (try dsimp only at hSw); go_simp; (try with_reducible rfl)
  refine wpHd_take (i := 7) (v := ?_) (by kernel_rfl) rfl (by kernel_rfl) (fun _ _ _ h => h) (.inl ⟨by rfl, ?_⟩) hSS ?_
  rotate_left
  · intro w hSw; (try dsimp only at hSw); go_simp; (try with_reducible rfl)
  refine wpHd_take (i := 8) (v := ?_) (by kernel_rfl) rfl (by kernel_rfl) (fun _ _ _ h => h) (.inl ⟨by rfl, ?_⟩) hSS ?_
  rotate_left
  · intro w hSw; (try dsimp only at hSw); go_simp; (try with_reducible rfl)
  refine wpHd_take (i := 9) (v := ?_) (by kernel_rfl) rfl (by kernel_rfl) (fun _ _ _ h => h) (.inl ⟨by rfl, ?_⟩) hSS ?_
  rotate_left
  · intro w hSw; (try dsimp only at hSw); go_simp; (try with_reducible rfl)
  try simp only [Act.put, List.getElem_toArray, List.getElem_cons_succ, List.getElem_cons_zero, List.setIfInBounds_toArray, List.set_cons_zero, List.set_cons_succ]
  refine wpHd_take (i := 10) (v := ?_) (by kernel_rfl) rfl (by kernel_rfl) (fun _ _ _ h => h) (.inl ⟨by rfl, ?_⟩) hSS ?_
  rotate_left
  · intro w hSw; (try dsimp only at hSw); go_simp; (try with_reducible rfl)
  refine wpHd_take (i := 11) (v := ?_) (by kernel_rfl) rfl (by kernel_rfl) (fun _ _ _ h => h) (.inl ⟨by rfl, ?_⟩) hSS ?_
  rotate_left
  · intro w hSw; (try dsimp only at hSw); go_simp; (try with_reducible rfl)
  try simp only [Act.put, List.getElem_toArray, List.getElem_cons_succ, List.getElem_cons_zero, List.setIfInBounds_toArray, List.set_cons_zero, List.set_cons_succ]
  refine wpHd_end (by kernel_rfl) ?_
  clear hSS k1 k3
  go_upto_region 3 with fail
  have HR2 := Lib.hid (show Box W1.drew rb 160 (rwC 0 (.slice none 0 0) false 0) from HR1.out)
  have HF2 := Lib.hid (show Box W1.drew fb 38 _ from HF1.out)
  have HO2 := Lib.hid HO1.out.drew
  have H2 := Lib.hid (H1.out.keep ((Only.refl Non W1).drew))
  clear HR1 HF1 HO1 H1
  generalize W1.drew = W2 at *
  have k1 : W2.drew.cell? ⟨fb, 1, none⟩ = some (.slice A dl.length cp) := HF2.out.cellAt rfl
  have k3 : W2.drew.cell? ⟨i.cb, 3, none⟩ = some (.int .i64 (c.f 3)) := rcC_f H2.out.box (by decide)
  refine wp_region_tail (S := (fun w' : World => w'.cell? ⟨fb, 1, none⟩ = some (.slice A dl.length cp) ∧ w'.cell? ⟨i.cb, 3, none⟩ = some (.int .i64 (c.f 3)))) 8 (by kernel_rfl) (by kernel_rfl) ?_ ?_
  · exact ⟨by assumption, by assumption⟩
  intro hSS
  refine wpHd_take (i := 0) (v := ?_) (by kernel_rfl) rfl (by kernel_rfl) (fun _ _ _ h => h) (.inl ⟨by rfl, ?_⟩) hSS ?_
  rotate_left
  · intro w hSw; (try dsimp only at hSw); go_simp; (try with_reducible rfl)
  refine wpHd_take (i := 1) (v := ?_) (by kernel_rfl) rfl (by kernel_rfl) (fun _ _ _ h => h) (.inl ⟨by rfl, ?_⟩) hSS ?_
  rotate_left
  · intro w hSw; (try dsimp only at hSw); go_simp; (try with_reducible rfl)
  refine wpHd_take (i := 2) (v := ?_) (by kernel_rfl) rfl (by kernel_rfl) (fun _ _ _ h => h) (.inl ⟨by rfl, ?_⟩) hSS ?_
  rotate_left
  · intro w hSw; (try dsimp only at hSw); go_simp; (try with_reducible rfl)
  refine wpHd_take (i := 3) (v := ?_) (by kernel_rfl) rfl (by kernel_rfl) (fun _ _ _ h => h) (.inl ⟨by rfl, ?_⟩) hSS ?_
  rotate_left
  · intro w hSw; (try dsimp only at hSw); go_simp; (try with_reducible rfl)
  refine wpHd_take (i := 4) (v := ?_) (by kernel_rfl) rfl (by kernel_rfl) (fun _ _ _ h => h) (.inl ⟨by rfl, ?_⟩) hSS ?_
  rotate_left
  · intro w hSw; (try dsimp only at hSw); go_simp; (try with_reducible rfl)
  try simp only [Act.put, List.getElem_toArray, List.getElem_cons_succ, List.getElem_cons_zero, List.setIfInBounds_toArray, List.set_cons_zero, List.set_cons_succ]
  refine wpHd_take (i := 5) (v := ?_) (by kernel_rfl) rfl (by kernel_rfl) (fun _ _ _ h => h) (.inl ⟨by rfl, ?_⟩) hSS ?_
  rotate_left
  · intro w hSw; (try dsimp only at hSw); go_simp; (try with_reducible rfl)
  refine wpHd_take (i := 6) (v := ?_) (by kernel_rfl) rfl (by kernel_rfl) (fun _ _ _ h => h) (.inl ⟨by rfl, ?_⟩) hSS ?_
  rotate_left
  · intro w hSw; (try dsimp only at hSw); go_simp; (try with_reducible rfl)
  refine wpHd_take (i := 7) (v := ?_) (by kernel_rfl) rfl (by kernel_rfl) (fun _ _ _ h => h) (.inl ⟨by rfl, ?_⟩) hSS ?_
  rotate_left
  · intro w hSw; (try dsimp only at hSw); go_simp; (try with_reducible rfl)
  try simp only [Act.put, List.getElem_toArray, List.getElem_cons_succ, List.getElem_cons_zero, List.setIfInBounds_toArray, List.set_cons_zero, List.set_cons_succ]
  refine wpHd_end (by kernel_rfl) ?_
  clear hSS k1 k3
  go_upto_region 4 with fail
  have HR3 := Lib.hid (show Box W2.drew rb 160 (rwC 0 (.slice none 0 0) false 0) from HR2.out)
  have HF3 := Lib.hid (show Box W2.drew fb 38 _ from HF2.out)
  have HO3 := Lib.hid HO2.out.drew
  have H3 := Lib.hid (H2.out.keep ((Only.refl Non W2).drew))
  clear HR2 HF2 HO2 H2
  generalize W2.drew = W3 at *
  go_wp2_with (refine wpList_store_row rfl 160 _ _ rfl rb (rwC 0 (.slice none 0 0) false 10) rfl rfl 160 _ HR3.out (by kernel_rfl) rfl (rwC_one _ _ _ _ _ _) ?_)
  refine bodyPost_ret (results_cell_row rfl _ _ rb _ (rwC 0 (.slice none 0 0) false 10) (0, 0) _ rfl (HR3.out.setRow' _) Tryz.underlying160 rfl (by kernel_rfl)) rfl ?_
  exact ⟨rfl, HO3.out.setRow' (.inr HRB.out) _⟩
theorem rch_put_no {b : Int} {dl : List Int} {u : Value} {level : Int} (h : Rch o i s Dr w) (hby : Byt w u dl) (hI : o.Inv s) (hb : 0 ≤ b) (hb2 : b < c.f 2) (hl : (dl.length : Int) = c.f 3) (ht : takesB c k b level = false) :
    Calls Tryz.prog 93 #[.pointer (some ⟨i.cb, 0, none⟩), .agg #[.int .i64 b, u], .int .i64 level] w fun e w' => e = .returned (.agg (rwC 0 (.slice none 0 0) false 5)) ∧ Only Non w w' := by
  have hx0 : decide (b < 0) = false := decide_eq_false (by omega)
  have hx2 : decide (c.f 2 ≤ b) = false := decide_eq_false (by omega)
  have hx3 : ((dl.length : Int) != c.f 3) = false := by rw [bne_eq_false_iff_eq]; exact hl
  have HT := Lib.hid fun (W : World) (hC : Rch o i s Dr W) => by have := rch_takes b level hC hI; rw [ht] at this; exact this
  obtain ⟨A, cp, rfl, hle, hmax, hsrc⟩ := hby
  have HSRC := Lib.hid hsrc
  have HMAX := Lib.hid hmax
  obtain ⟨lv, dv, h⟩ := h
  have HW := Lib.hid fun (g : Nat) (hg : w.heap.size ≤ g) => h.notW hg
  have HB := Lib.hid (Box.fresh w 38 #[.int .i64 b, .slice A dl.length cp])
  have HO := Lib.hid ((Only.refl Non w).alloc (.cells #[.int .i64 b, .slice A dl.length cp] 38))
  have H := Lib.hid (h.keep HO.out)
  have HP3 := Lib.hid h.right.p3
  clear hsrc hmax hle h hb hb2 hl hI ht
  go_enter Tryz.func93, Tryz.ntmps93
  go_upto_region 1 with fail
  change Code.wp _ _ _ _ ((w.alloc (.cells #[.int .i64 b, .slice A dl.length cp] 38)).alloc (.cells (rwC 0 (.slice none 0 0) false 0) 160))
  have hsz : (w.alloc (.cells #[.int .i64 b, .slice A dl.length cp] 38)).heap.size = w.heap.size + 1 := World.size_alloc ..
  generalize w.alloc (.cells #[.int .i64 b, .slice A dl.length cp] 38) = W0 at *
  obtain ⟨fb, hfb⟩ : ∃ fb, fb = w.heap.size := ⟨_, rfl⟩
  have HLB := Lib.hid (show w.heap.size ≤ fb from Nat.le_of_eq hfb.symm)
  rw [← hfb] at HB hsz ⊢
  clear hfb
  have ho1 : Only Non W0 (W0.alloc (.cells (rwC 0 (.slice none 0 0) false 0) 160)) := (Only.refl Non W0).alloc _
  have HR1 := Lib.hid (Box.fresh W0 160 (rwC 0 (.slice none 0 0) false 0))
  have HF1 := Lib.hid (ho1.box HB.out id)
  have HO1 := Lib.hid (HO.out.trans ho1)
  have H1 := Lib.hid (H.out.keep ho1)
  clear ho1 HB HO H
  generalize W0.alloc (.cells (rwC 0 (.slice none 0 0) false 0) 160) = W1 at *
  rw [hsz] at HR1
  clear hsz
  have HRB := Lib.hid (show w.heap.size ≤ fb + 1 by have := HLB.out; omega)
  generalize fb + 1 = rb at *
  have k1 : W1.drew.cell? ⟨fb, 0, none⟩ = some (.int .i64 b) := HF1.out.cellAt rfl
  have k3 : W1.drew.cell? ⟨i.cb, 2, none⟩ = some (.int .i64 (c.f 2)) := rcC_f H1.out.box (by decide)
  refine wp_region_tail (S := (fun w' : World => w'.cell? ⟨fb, 0, none⟩ = some (.int .i64 b) ∧ w'.cell? ⟨i.cb, 2, none⟩ = some (.int .i64 (c.f 2)))) 12 (by kernel_rfl) (by kernel_rfl) ?_ ?_
  · exact ⟨by assumption, by assumption⟩
  intro hSS
  refine wpHd_take (i := 0) (v := ?_) (by kernel_rfl) rfl (by kernel_rfl) (fun _ _ _ h => h) (.inl ⟨by rfl, ?_⟩) hSS ?_
  rotate_left
  · intro w hSw; (try dsimp only at hSw); go_simp; (try with_reducible rfl)
  refine wpHd_take (i := 1) (v := ?_) (by kernel_rfl) rfl (by kernel_rfl) (fun _ _ _ h => h) (.inl ⟨by rfl, ?_⟩) hSS ?_
  rotate_left
  · intro w hSw; (try dsimp only at hSw); go_simp; (try with_reducible rfl)
  refine wpHd_take (i := 2) (v := ?_) (by kernel_rfl) rfl (by kernel_rfl) (fun _ _ _ h => h) (.inl ⟨by rfl, ?_⟩) hSS ?_
  rotate_left
  · intro w hSw; (try dsimp only at hSw); go_simp; (try with_reducible rfl)
  refine wpHd_take (i := 3) (v := ?_) (by kernel_rfl) rfl (by kernel_rfl) (fun _ _ _ h => h) (.inl ⟨by rfl, ?_⟩) hSS ?_
  rotate_left
  · intro w hSw; (try dsimp only at hSw); go_simp; (try with_reducible rfl)
  refine wpHd_take (i := 4) (v := ?_) (by kernel_rfl) rfl (by kernel_rfl) (fun _ _ _ h => h) (.inl ⟨by rfl, ?_⟩) hSS ?_
  rotate_left
  · intro w hSw; (try dsimp only at hSw); go_simp; (try with_reducible rfl)
  try simp only [Act.put, List.getElem_toArray, List.getElem_cons_succ, List.getElem_cons_zero, List.setIfInBounds_toArray, List.set_cons_zero, List.set_cons_succ]
  refine wpHd_take (i := 5) (v := ?_) (by kernel_rfl) rfl (by kernel_rfl) (fun _ _ _ h => h) (.inl ⟨by rfl, ?_⟩) hSS ?_
  rotate_left
  · intro w hSw; (try dsimp only at hSw); go_simp; (try with_reducible rfl)
  refine wpHd_take (i := 6) (v := ?_) (by kernel_rfl) rfl (by kernel_rfl) (fun _ _ _ h => h) (.inl ⟨by rfl, ?_⟩) hSS ?_
  rotate_left
  · intro w hSw; (try dsimp only at hSw); go_simp; (try with_reducible rfl)
  refine wpHd_take (i := 7) (v := ?_) (by kernel_rfl) rfl (by kernel_rfl) (fun _ _ _ h => h) (.inl ⟨by rfl, ?_⟩) hSS ?_
  rotate_left
  · intro w hSw; (try dsimp only at hSw); go_simp; (try with_reducible rfl)
  refine wpHd_take (i := 8) (v := ?_) (by kernel_rfl) rfl (by kernel_rfl) (fun _ _ _ h => h) (.inl ⟨by rfl, ?_⟩) hSS ?_
  rotate_left
  · intro w hSw; (try dsimp only at hSw); go_simp; (try with_reducible rfl)
  refine wpHd_take (i := 9) (v := ?_) (by kernel_rfl) rfl (by kernel_rfl) (fun _ _ _ h => h) (.inl ⟨by rfl, ?_⟩) hSS ?_
  rotate_left
  · intro w hSw; (try dsimp only at hSw); go_simp; (try with_reducible rfl)
  try simp only [Act.put, List.getElem_toArray, List.getElem_cons_succ, List.getElem_cons_zero, List.setIfInBounds_toArray, List.set_cons_zero, List.set_cons_succ]
  refine wpHd_take (i := 10) (v := ?_) (by kernel_rfl) rfl (by kernel_rfl) (fun _ _ _ h => h) (.inl ⟨by rfl, ?_⟩) hSS ?_
  rotate_left
  · intro w hSw; (try dsimp only at hSw); go_simp; (try with_reducible rfl)
  refine wpHd_take (i := 11) (v := ?_) (by kernel_rfl) rfl (by kernel_rfl) (fun _ _ _ h => h) (.inl ⟨by rfl, ?_⟩) hSS ?_
  rotate_left
  · intro w hSw; (try dsimp only at hSw); go_simp; (try with_reducible rfl)
  try simp only [Act.put, List.getElem_toArray, List.getElem_cons_succ, List.getElem_cons_zero, List.setIfInBounds_toArray, List.set_cons_zero, List.set_cons_succ]
  refine wpHd_end (by kernel_rfl) ?_
  clear hSS k1 k3
  go_upto_region 3 with fail
  have HR2 := Lib.hid (show Box W1.drew rb 160 (rwC 0 (.slice none 0 0) false 0) from HR1.out)
  have HF2 := Lib.hid (show Box W1.drew fb 38 _ from HF1.out)
  have HO2 := Lib.hid HO1.out.drew
  have H2 := Lib.hid (H1.out.keep ((Only.refl Non W1).drew))
  clear HR1 HF1 HO1 H1
  generalize W1.drew = W2 at *
  have k1 : W2.drew.cell? ⟨fb, 1, none⟩ = some (.slice A dl.length cp) := HF2.out.cellAt rfl
  have k3 : W2.drew.cell? ⟨i.cb, 3, none⟩ = some (.int .i64 (c.f 3)) := rcC_f H2.out.box (by decide)
  refine wp_region_tail (S := (fun w' : World => w'.cell? ⟨fb, 1, none⟩ = some (.slice A dl.length cp) ∧ w'.cell? ⟨i.cb, 3, none⟩ = some (.int .i64 (c.f 3)))) 8 (by kernel_rfl) (by kernel_rfl) ?_ ?_
  · exact ⟨by assumption, by assumption⟩
  intro hSS
  refine wpHd_take (i := 0) (v := ?_) (by kernel_rfl) rfl (by kernel_rfl) (fun _ _ _ h => h) (.inl ⟨by rfl, ?_⟩) hSS ?_
  rotate_left
  · intro w hSw; (try dsimp only at hSw); go_simp; (try with_reducible rfl)
  refine wpHd_take (i := 1) (v := ?_) (by kernel_rfl) rfl (by kernel_rfl) (fun _ _ _ h => h) (.inl ⟨by rfl, ?_⟩) hSS ?_
  rotate_left
  · intro w hSw; (try dsimp only at hSw); go_simp; (try with_reducible rfl)
  refine wpHd_take (i := 2) (v := ?_) (by kernel_rfl) rfl (by kernel_rfl) (fun _ _ _ h => h) (.inl ⟨by rfl, ?_⟩) hSS ?_
  rotate_left
  · intro w hSw; (try dsimp only at hSw); go_simp; (try with_reducible rfl)
  refine wpHd_take (i := 3) (v := ?_) (by kernel_rfl) rfl (by kernel_rfl) (fun _ _ _ h => h) (.inl ⟨by rfl, ?_⟩) hSS ?_
  rotate_left
  · intro w hSw; (try dsimp only at hSw); go_simp; (try with_reducible rfl)
  refine wpHd_take (i := 4) (v := ?_) (by kernel_rfl) rfl (by kernel_rfl) (fun _ _ _ h => h) (.inl ⟨by rfl, ?_⟩) hSS ?_
  rotate_left
  · intro w hSw; (try dsimp only at hSw); go_simp; (try with_reducible rfl)
  try simp only [Act.put, List.getElem_toArray, List.getElem_cons_succ, List.getElem_cons_zero, List.setIfInBounds_toArray, List.set_cons_zero, List.set_cons_succ]
  refine wpHd_take (i := 5) (v := ?_) (by kernel_rfl) rfl (by kernel_rfl) (fun _ _ _ h => h) (.inl ⟨by rfl, ?_⟩) hSS ?_
  rotate_left
  · intro w hSw; (try dsimp only at hSw); go_simp; (try with_reducible rfl)
  refine wpHd_take (i := 6) (v := ?_) (by kernel_rfl) rfl (by kernel_rfl) (fun _ _ _ h => h) (.inl ⟨by rfl, ?_⟩) hSS ?_
  rotate_left
  · intro w hSw; (try dsimp only at hSw); go_simp; (try with_reducible rfl)
  refine wpHd_take (i := 7) (v := ?_) (by kernel_rfl) rfl (by kernel_rfl) (fun _ _ _ h => h) (.inl ⟨by rfl, ?_⟩) hSS ?_
  rotate_left
  · intro w hSw; (try dsimp only at hSw); go_simp; (try with_reducible rfl)
  try simp only [Act.put, List.getElem_toArray, List.getElem_cons_succ, List.getElem_cons_zero, List.setIfInBounds_toArray, List.set_cons_zero, List.set_cons_succ]
  refine wpHd_end (by kernel_rfl) ?_
  clear hSS k1 k3
  go_upto_region 5 with fail
  have HR3 := Lib.hid (show Box W2.drew rb 160 (rwC 0 (.slice none 0 0) false 0) from HR2.out)
  have HF3 := Lib.hid (show Box W2.drew fb 38 _ from HF2.out)
  have HO3 := Lib.hid HO2.out.drew
  have H3 := Lib.hid (H2.out.keep ((Only.refl Non W2).drew))
  clear HR2 HF2 HO2 H2
  generalize W2.drew = W3 at *
  have y0 : W3.cell? ⟨fb, 0, none⟩ = some (.int .i64 b) := HF3.out.cellAt rfl
  go_upto_region 6 with (go_at_call 31; refine (HT.out W3 ⟨_, _, H3.out⟩).mono ?_; rintro e W4 ⟨rfl, ho4⟩)
  have HR4 := Lib.hid (ho4.box HR3.out id)
  have HO4 := Lib.hid (HO3.out.trans ho4)
  go_wp2_with (refine wpList_store_row rfl 160 _ _ rfl rb (rwC 0 (.slice none 0 0) false 5) rfl rfl 160 _ HR4.out (by kernel_rfl) rfl (rwC_one _ _ _ _ _ _) ?_)
  refine bodyPost_ret (results_cell_row rfl _ _ rb _ (rwC 0 (.slice none 0 0) false 5) (0, 0) _ rfl (HR4.out.setRow' _) Tryz.underlying160 rfl (by kernel_rfl)) rfl ?_
  exact ⟨rfl, HO4.out.setRow' (.inr HRB.out) _⟩
theorem rch_put_room {n : Nat} {dl : List Int} {u : Value} {level : Int} (h : Rch o i s Dr w) (hI : o.Inv s) (h2 : (n : Int) < c.f 2) (hl : (dl.length : Int) = c.f 3) (ht : takesB c k n level = true) (hts : K.sp.takes n) (hage : K.sp.age s < maxAge) (hby : Byt w u dl)
    (hu : ∀ j, ownB u j → ¬ RcW o i j) (hg : (K.sp.add s n).2.2 = false) :
    Calls Tryz.prog 93 #[.pointer (some ⟨i.cb, 0, none⟩), .agg #[.int .i64 n, u], .int .i64 level] w (RPutP o i s Dr n dl w) := by
  have hx0 : decide ((n : Int) < 0) = false := decide_eq_false (by omega)
  have hx2 : decide (c.f 2 ≤ (n : Int)) = false := decide_eq_false (by omega)
  have hx3 : ((dl.length : Int) != c.f 3) = false := by rw [bne_eq_false_iff_eq]; exact hl
  have HN := Lib.hid (show n < 32 by obtain ⟨lv, dv, h⟩ := h; have := h.right.p2; omega)
  have HL := Lib.hid hl
  have HUS := Lib.hid hu
  have HT := Lib.hid fun (W : World) (hC : Rch o i s Dr W) => by have := rch_takes (n : Int) level hC hI; rw [ht] at this; exact this
  have HU := Lib.hid fun (W : World) (lv : Value) (dv : Nat → Value) (hC : RchB o i s lv dv Dr W) => o.add hC.ord hI hC.box hC.cbB.2 (Int.natCast_nonneg n) (show (n : Int) < 64 by have := HN.out; omega) hts hage
  have HG := Lib.hid hg
  obtain ⟨A, cp, rfl, hle, hmax, hsrc⟩ := hby
  have HSRC := Lib.hid hsrc
  have HMAX := Lib.hid hmax
  obtain ⟨lv, dv, h⟩ := h
  have HW := Lib.hid fun (g : Nat) (hg : w.heap.size ≤ g) => h.notW hg
  have HB := Lib.hid (Box.fresh w 38 #[.int .i64 n, .slice A dl.length cp])
  have HO := Lib.hid ((Only.refl Non w).alloc (.cells #[.int .i64 n, .slice A dl.length cp] 38))
  have H := Lib.hid (h.keep HO.out)
  have HP3 := Lib.hid h.right.p3
  clear hsrc hmax hle h hl hI h2 ht hts hage hg hu
  go_enter Tryz.func93, Tryz.ntmps93
  go_upto_region 1 with fail
  change Code.wp _ _ _ _ ((w.alloc (.cells #[.int .i64 n, .slice A dl.length cp] 38)).alloc (.cells (rwC 0 (.slice none 0 0) false 0) 160))
  have hsz : (w.alloc (.cells #[.int .i64 n, .slice A dl.length cp] 38)).heap.size = w.heap.size + 1 := World.size_alloc ..
  generalize w.alloc (.cells #[.int .i64 n, .slice A dl.length cp] 38) = W0 at *
  obtain ⟨fb, hfb⟩ : ∃ fb, fb = w.heap.size := ⟨_, rfl⟩
  have HLB := Lib.hid (show w.heap.size ≤ fb from Nat.le_of_eq hfb.symm)
  rw [← hfb] at HB hsz ⊢
  clear hfb
  have ho1 : Only Non W0 (W0.alloc (.cells (rwC 0 (.slice none 0 0) false 0) 160)) := (Only.refl Non W0).alloc _
  have HR1 := Lib.hid (Box.fresh W0 160 (rwC 0 (.slice none 0 0) false 0))
  have HF1 := Lib.hid (ho1.box HB.out id)
  have HO1 := Lib.hid (HO.out.trans ho1)
  have H1 := Lib.hid (H.out.keep ho1)
  clear ho1 HB HO H
  generalize W0.alloc (.cells (rwC 0 (.slice none 0 0) false 0) 160) = W1 at *
  rw [hsz] at HR1
  clear hsz
  have HRB := Lib.hid (show w.heap.size ≤ fb + 1 by have := HLB.out; omega)
  generalize fb + 1 = rb at *
  have k1 : W1.drew.cell? ⟨fb, 0, none⟩ = some (.int .i64 n) := HF1.out.cellAt rfl
  have k3 : W1.drew.cell? ⟨i.cb, 2, none⟩ = some (.int .i64 (c.f 2)) := rcC_f H1.out.box (by decide)
  refine wp_region_tail (S := (fun w' : World => w'.cell? ⟨fb, 0, none⟩ = some (.int .i64 n) ∧ w'.cell? ⟨i.cb, 2, none⟩ = some (.int .i64 (c.f 2)))) 12 (by kernel_rfl) (by kernel_rfl) ?_ ?_
  · exact ⟨by assumption, by assumption⟩
  intro hSS
  refine wpHd_take (i := 0) (v := ?_) (by kernel_rfl) rfl (by kernel_rfl) (fun _ _ _ h => h) (.inl ⟨by rfl, ?_⟩) hSS ?_
  rotate_left
  · intro w hSw; (try dsimp only at hSw); go_simp; (try with_reducible rfl)
  refine wpHd_take (i := 1) (v := ?_) (by kernel_rfl) rfl (by kernel_rfl) (fun _ _ _ h => h) (.inl ⟨by rfl, ?_⟩) hSS ?_
  rotate_left
  · intro w hSw; (try dsimp only at hSw); go_simp; (try with_reducible rfl)
  refine wpHd_take (i := 2) (v := ?_) (by kernel_rfl) rfl (by kernel_rfl) (fun _ _ _ h => h) (.inl ⟨by rfl, ?_⟩) hSS ?_
  rotate_left
  · intro w hSw; (try dsimp only at hSw); go_simp; (try with_reducible rfl)
  refine wpHd_take (i := 3) (v := ?_) (by kernel_rfl) rfl (by kernel_rfl) (fun _ _ _ h => h) (.inl ⟨by rfl, ?_⟩) hSS ?_
  rotate_left
  · intro w hSw; (try dsimp only at hSw); go_simp; (try with_reducible rfl)
  refine wpHd_take (i := 4) (v := ?_) (by kernel_rfl) rfl (by kernel_rfl) (fun _ _ _ h => h) (.inl ⟨by rfl, ?_⟩) hSS ?_
  rotate_left
  · intro w hSw; (try dsimp only at hSw); go_simp; (try with_reducible rfl)
  try simp only [Act.put, List.getElem_toArray, List.getElem_cons_succ, List.getElem_cons_zero, List.setIfInBounds_toArray, List.set_cons_zero, List.set_cons_succ]
  refine wpHd_take (i := 5) (v := ?_) (by kernel_rfl) rfl (by kernel_rfl) (fun _ _ _ h => h) (.inl ⟨by rfl, ?_⟩) hSS ?_
  rotate_left
  · intro w hSw; (try dsimp only at hSw); go_simp; (try with_reducible rfl)
  refine wpHd_take (i := 6) (v := ?_) (by kernel_rfl) rfl (by kernel_rfl) (fun _ _ _ h => h) (.inl ⟨by rfl, ?_⟩) hSS ?_
  rotate_left
  · intro w hSw; (try dsimp only at hSw); go_simp; (try with_reducible rfl)
  refine wpHd_take (i := 7) (v := ?_) (by kernel_rfl) rfl (by kernel_rfl) (fun _ _ _ h => h) (.inl ⟨by rfl, ?_⟩) hSS ?_
  rotate_left
  · intro w hSw; (try dsimp only at hSw); go_simp; (try with_reducible rfl)
  refine wpHd_take (i := 8) (v := ?_) (by kernel_rfl) rfl (by kernel_rfl) (fun _ _ _ h => h) (.inl ⟨by rfl, ?_⟩) hSS ?_
  rotate_left
  · intro w hSw; (try dsimp only at hSw); go_simp; (try with_reducible rfl)
  refine wpHd_take (i := 9) (v := ?_) (by kernel_rfl) rfl (by kernel_rfl) (fun _ _ _ h => h) (.inl ⟨by rfl, ?_⟩) hSS ?_
  rotate_left
  · intro w hSw; (try dsimp only at hSw); go_simp; (try with_reducible rfl)
  try simp only [Act.put, List.getElem_toArray, List.getElem_cons_succ, List.getElem_cons_zero, List.setIfInBounds_toArray, List.set_cons_zero, List.set_cons_succ]
  refine wpHd_take (i := 10) (v := ?_) (by kernel_rfl) rfl (by kernel_rfl) (fun _ _ _ h => h) (.inl ⟨by rfl, ?_⟩) hSS ?_
  rotate_left
  · intro w hSw; (try dsimp only at hSw); go_simp; (try with_reducible rfl)
  refine wpHd_take (i := 11) (v := ?_) (by kernel_rfl) rfl (by kernel_rfl) (fun _ _ _ h => h) (.inl ⟨by rfl, ?_⟩) hSS ?_
  rotate_left
  · intro w hSw; (try dsimp only at hSw); go_simp; (try with_reducible rfl)
  try simp only [Act.put, List.getElem_toArray, List.getElem_cons_succ, List.getElem_cons_zero, List.setIfInBounds_toArray, List.set_cons_zero, List.set_cons_succ]
  refine wpHd_end (by kernel_rfl) ?_
  clear hSS k1 k3
  go_upto_region 3 with fail
  have HR2 := Lib.hid (show Box W1.drew rb 160 (rwC 0 (.slice none 0 0) false 0) from HR1.out)
  have HF2 := Lib.hid (show Box W1.drew fb 38 _ from HF1.out)
  have HO2 := Lib.hid HO1.out.drew
  have H2 := Lib.hid (H1.out.keep ((Only.refl Non W1).drew))
  clear HR1 HF1 HO1 H1
  generalize W1.drew = W2 at *
  have k1 : W2.drew.cell? ⟨fb, 1, none⟩ = some (.slice A dl.length cp) := HF2.out.cellAt rfl
  have k3 : W2.drew.cell? ⟨i.cb, 3, none⟩ = some (.int .i64 (c.f 3)) := rcC_f H2.out.box (by decide)
  refine wp_region_tail (S := (fun w' : World => w'.cell? ⟨fb, 1, none⟩ = some (.slice A dl.length cp) ∧ w'.cell? ⟨i.cb, 3, none⟩ = some (.int .i64 (c.f 3)))) 8 (by kernel_rfl) (by kernel_rfl) ?_ ?_
  · exact ⟨by assumption, by assumption⟩
  intro hSS
  refine wpHd_take (i := 0) (v := ?_) (by kernel_rfl) rfl (by kernel_rfl) (fun _ _ _ h => h) (.inl ⟨by rfl, ?_⟩) hSS ?_
  rotate_left
  · intro w hSw; (try dsimp only at hSw); go_simp; (try with_reducible rfl)
  refine wpHd_take (i := 1) (v := ?_) (by kernel_rfl) rfl (by kernel_rfl) (fun _ _ _ h => h) (.inl ⟨by rfl, ?_⟩) hSS ?_
  rotate_left
  · intro w hSw; (try dsimp only at hSw); go_simp; (try with_reducible rfl)
  refine wpHd_take (i := 2) (v := ?_) (by kernel_rfl) rfl (by kernel_rfl) (fun _ _ _ h => h) (.inl ⟨by rfl, ?_⟩) hSS ?_
  rotate_left
  · intro w hSw; (try dsimp only at hSw); go_simp; (try with_reducible rfl)
  refine wpHd_take (i := 3) (v := ?_) (by kernel_rfl) rfl (by kernel_rfl) (fun _ _ _ h => h) (.inl ⟨by rfl, ?_⟩) hSS ?_
  rotate_left
  · intro w hSw; (try dsimp only at hSw); go_simp; (try with_reducible rfl)
  refine wpHd_take (i := 4) (v := ?_) (by kernel_rfl) rfl (by kernel_rfl) (fun _ _ _ h => h) (.inl ⟨by rfl, ?_⟩) hSS ?_
  rotate_left
  · intro w hSw; (try dsimp only at hSw); go_simp; (try with_reducible rfl)
  try simp only [Act.put, List.getElem_toArray, List.getElem_cons_succ, List.getElem_cons_zero, List.setIfInBounds_toArray, List.set_cons_zero, List.set_cons_succ]
  refine wpHd_take (i := 5) (v := ?_) (by kernel_rfl) rfl (by kernel_rfl) (fun _ _ _ h => h) (.inl ⟨by rfl, ?_⟩) hSS ?_
  rotate_left
  · intro w hSw; (try dsimp only at hSw); go_simp; (try with_reducible rfl)
  refine wpHd_take (i := 6) (v := ?_) (by kernel_rfl) rfl (by kernel_rfl) (fun _ _ _ h => h) (.inl ⟨by rfl, ?_⟩) hSS ?_
  rotate_left
  · intro w hSw; (try dsimp only at hSw); go_simp; (try with_reducible rfl)
  refine wpHd_take (i := 7) (v := ?_) (by kernel_rfl) rfl (by kernel_rfl) (fun _ _ _ h => h) (.inl ⟨by rfl, ?_⟩) hSS ?_
  rotate_left
  · intro w hSw; (try dsimp only at hSw); go_simp; (try with_reducible rfl)
  try simp only [Act.put, List.getElem_toArray, List.getElem_cons_succ, List.getElem_cons_zero, List.setIfInBounds_toArray, List.set_cons_zero, List.set_cons_succ]
  refine wpHd_end (by kernel_rfl) ?_
  clear hSS k1 k3
  go_upto_region 5 with fail
  have HR3 := Lib.hid (show Box W2.drew rb 160 (rwC 0 (.slice none 0 0) false 0) from HR2.out)
  have HF3 := Lib.hid (show Box W2.drew fb 38 _ from HF2.out)
  have HO3 := Lib.hid HO2.out.drew
  have H3 := Lib.hid (H2.out.keep ((Only.refl Non W2).drew))
  clear HR2 HF2 HO2 H2
  generalize W2.drew = W3 at *
  have y0 : W3.cell? ⟨fb, 0, none⟩ = some (.int .i64 n) := HF3.out.cellAt rfl
  go_upto_region 7 with (go_at_call 31; refine (HT.out W3 ⟨_, _, H3.out⟩).mono ?_; rintro e W4 ⟨rfl, ho4⟩)
  have HR4 := Lib.hid (ho4.box HR3.out id)
  have HF4 := Lib.hid (ho4.box HF3.out id)
  have HO4 := Lib.hid (HO3.out.trans ho4)
  have H4 := Lib.hid (H3.out.keep ho4)
  clear ho4 y0 HR3 HF3 HO3 H3 hx0 hx2 hx3
  have y0 : W4.cell? ⟨fb, 0, none⟩ = some (.int .i64 n) := HF4.out.cellAt rfl
  generalize hwas : decide ((n : Int) ∈ K.sp.all s) = was at *
  have HWAS := Lib.hid hwas
  clear hwas
  rw [HG.out] at HU
  generalize hvv : (K.sp.add s n).2.1 = vv at *
  have HVV := Lib.hid hvv
  clear hvv
  generalize hss : (K.sp.add s n).1 = s2 at *
  have HSS2 := Lib.hid hss
  clear hss
  go_upto_region 8 with (first | (go_at_call 162; refine (HU.out W4 _ _ H4.out).mono ?_; rintro e W5 ⟨A5, n5, m5, lv5, rfl, h1, h2, h3⟩; have H5 := Lib.hid (H4.out.turn h1 h2 h3); have HR5 := Lib.hid (h3.box HR4.out fun e => HW.out rb HRB.out (RoF.toW e)); have HF5 := Lib.hid (h3.box HF4.out fun e => HW.out fb HLB.out (RoF.toW e)); have HO5 := Lib.hid ((HO4.out.mono (S' := RcW o i) fun _ h => h.elim).trans (h3.mono fun j hj => .inl (RoF.toW hj))); clear h1 h2 h3) | (refine wpList_store_row rfl 252 _ _ rfl W5.heap.size (dwC (.slice A5 n5 m5) vv false was 0) rfl rfl 252 _ (Box.fresh W5 252 (dwC (.slice none 0 0) 0 false false 0)) (by kernel_rfl) rfl (dwC_one _ _ _ _ _ _ _) ?_))
  have ho6 : Only Non W5 ((W5.alloc (.cells (dwC (.slice none 0 0) 0 false false 0) 252)).setRow W5.heap.size (dwC (.slice A5 n5 m5) vv false was 0)) := ((Only.refl Non W5).alloc _).setRow' (.inr (Nat.le_refl _)) _
  have HE6 := Lib.hid ((Box.fresh W5 252 (dwC (.slice none 0 0) 0 false false 0)).setRow' (dwC (.slice A5 n5 m5) vv false was 0))
  have HR6 := Lib.hid (ho6.box HR5.out id)
  have HF6 := Lib.hid (ho6.box HF5.out id)
  have HO6 := Lib.hid (HO5.out.transN ho6)
  have H6 := Lib.hid (H5.out.keep ho6)
  have HEB := Lib.hid (show w.heap.size ≤ W5.heap.size from HO5.out.size)
  clear ho6 HR5 HF5 HO5 H5 HR4 HF4 HO4 H4 y0 HU
  change Code.wp _ _ _ _ ((W5.alloc (.cells (dwC (.slice none 0 0) 0 false false 0) 252)).setRow W5.heap.size (dwC (.slice A5 n5 m5) vv false was 0))
  generalize (W5.alloc (.cells (dwC (.slice none 0 0) 0 false false 0) 252)).setRow W5.heap.size (dwC (.slice A5 n5 m5) vv false was 0) = W6 at *
  generalize W5.heap.size = eb at *
  have y2 : W6.cell? ⟨eb, 2, none⟩ = some (.bool false) := HE6.out.cellAt rfl
  go_upto_region 9 with (refine wpList_store_row rfl 160 _ _ rfl W6.heap.size (rwC 0 (.slice none 0 0) false 0) rfl rfl 160 _ (Box.fresh W6 160 (rwC 0 (.slice none 0 0) false 0)) (by kernel_rfl) rfl (rwC_one _ _ _ _ _ _) ?_)
  have ho7 : Only Non W6 ((W6.alloc (.cells (rwC 0 (.slice none 0 0) false 0) 160)).setRow W6.heap.size (rwC 0 (.slice none 0 0) false 0)) := ((Only.refl Non W6).alloc _).setRow' (.inr (Nat.le_refl _)) _
  have HT7 := Lib.hid ((Box.fresh W6 160 (rwC 0 (.slice none 0 0) false 0)).setRow' (rwC 0 (.slice none 0 0) false 0))
  have HR7 := Lib.hid (ho7.box HR6.out id)
  have HF7 := Lib.hid (ho7.box HF6.out id)
  have HE7 := Lib.hid (ho7.box HE6.out id)
  have HO7 := Lib.hid (HO6.out.transN ho7)
  have H7 := Lib.hid (H6.out.keep ho7)
  have HTB := Lib.hid (show w.heap.size ≤ W6.heap.size from HO6.out.size)
  have HRT := Lib.hid (show rb ≠ W6.heap.size from Nat.ne_of_lt HR6.out.lt)
  clear ho7 HR6 HF6 HO6 H6 HE6 y2
  change Code.wp _ _ _ _ ((W6.alloc (.cells (rwC 0 (.slice none 0 0) false 0) 160)).setRow W6.heap.size (rwC 0 (.slice none 0 0) false 0))
  generalize (W6.alloc (.cells (rwC 0 (.slice none 0 0) false 0) 160)).setRow W6.heap.size (rwC 0 (.slice none 0 0) false 0) = W7 at *
  generalize W6.heap.size = tb at *
  have y2 : W7.cell? ⟨eb, 2, none⟩ = some (.bool false) := HE7.out.cellAt rfl
  go_upto_region 11 with fail
  clear y2
  generalize W7 = W8 at *
  have HR8 := HR7
  have HF8 := HF7
  have HT8 := HT7
  have HO8 := HO7
  have H8 := H7
  clear HR7 HF7 HT7 HO7 H7
  have HSR := Lib.hid (HSRC.out.only HO8.out fun g' o' e' _ hw => HUS.out g' (by rw [e']; exact ownB_slice.2 rfl) hw)
  have y1 : W8.cell? ⟨fb, 1, none⟩ = some (.slice A dl.length cp) := HF8.out.cellAt rfl
  have HB1 := Lib.hid (show ([] : List Value).length + (bytes dl).length ≤ maxLen by rw [byt_len]; have := HL.out; have := HP3.out; unfold maxLen; simp; omega)
  have HB2 := Lib.hid (show (([] : List Value).length + (bytes dl).length) * 1 ≤ 140737488355328 by rw [byt_len]; have := HL.out; have := HP3.out; simp; omega)
  go_upto_region 13 with (at_builtin; refine wpList_append_row _ rfl (.tmp 63) (.tmp 65) 36 5 rfl byteInfo rfl Tryz.underlying36 (.slice none 0 0) [] rfl (Row.nil_ _ _) A dl.length cp (bytes dl) rfl (by rw [byt_len]) HSR.out (bytes_one dl) HB1.out HB2.out ?_; intro v' W9 hr9 ho9 hk9 _; have HV9 := Lib.hid hr9; have HO9 := Lib.hid (ho9.mono (S' := Non) fun j hj => (ownB_none hj).elim); have HK9 := Lib.hid hk9; clear hr9 ho9 hk9)
  rw [List.nil_append] at HV9
  have hrb : RByt W9 v' dl := ⟨HV9.out, by have := HL.out; have := HP3.out; omega⟩
  obtain ⟨A2, c2, e2⟩ := hrb.shape
  subst e2
  have HB9 := Lib.hid (show ∀ j, ownB (.slice A2 dl.length c2) j → o.B ≤ j from fun j hj => by
    rcases HK9.out j hj with h | h
    · exact (ownB_none h).elim
    · have := H8.out.bs; omega)
  have HRB9 := Lib.hid hrb
  have H9 := Lib.hid (H8.out.keep HO9.out)
  have HF9 := Lib.hid (HO9.out.box HF8.out id)
  have HR9 := Lib.hid (HO9.out.box HR8.out id)
  have HT9 := Lib.hid (HO9.out.box HT8.out id)
  have HX9 := Lib.hid (HO8.out.transN HO9.out)
  clear hrb y1 HF8 H8 HR8 HT8 HO8 HSR HB1 HB2 
  have k1 : W9.drew.cell? ⟨fb, 0, none⟩ = some (.int .i64 n) := HF9.out.cellAt rfl
  have k3 : W9.drew.cell? ⟨i.cb, 21, none⟩ = some (.slice (some ⟨i.db, 0, none⟩) 32 i.dc) := H9.out.c21
  refine wp_region_tail (S := (fun w' : World => w'.cell? ⟨fb, 0, none⟩ = some (.int .i64 n) ∧ w'.cell? ⟨i.cb, 21, none⟩ = some (.slice (some ⟨i.db, 0, none⟩) 32 i.dc))) 7 (by kernel_rfl) (by kernel_rfl) ?_ ?_
  · exact ⟨by assumption, by assumption⟩
  intro hSS
  refine wpHd_take (i := 0) (v := ?_) (by kernel_rfl) rfl (by kernel_rfl) (fun _ _ _ h => h) (.inl ⟨by rfl, ?_⟩) hSS ?_
  rotate_left
  · intro w hSw; (try dsimp only at hSw); go_simp; (try with_reducible rfl)
  refine wpHd_take (i := 1) (v := ?_) (by kernel_rfl) rfl (by kernel_rfl) (fun _ _ _ h => h) (.inl ⟨by rfl, ?_⟩) hSS ?_
  rotate_left
  · intro w hSw; (try dsimp only at hSw); go_simp; (try with_reducible rfl)
  refine wpHd_take (i := 2) (v := ?_) (by kernel_rfl) rfl (by kernel_rfl) (fun _ _ _ h => h) (.inl ⟨by rfl, ?_⟩) hSS ?_
  rotate_left
  · intro w hSw; (try dsimp only at hSw); go_simp; (try with_reducible rfl)
  refine wpHd_take (i := 3) (v := ?_) (by kernel_rfl) rfl (by kernel_rfl) (fun _ _ _ h => h) (.inl ⟨by rfl, ?_⟩) hSS ?_
  rotate_left
  · intro w hSw; (try dsimp only at hSw); go_simp; (try with_reducible rfl)
  refine wpHd_take (i := 4) (v := ?_) (by kernel_rfl) rfl (by kernel_rfl) (fun _ _ _ h => h) (.inl ⟨by rfl, ?_⟩) hSS ?_
  rotate_left
  · intro w hSw; (try dsimp only at hSw); go_simp; (try with_reducible rfl)
  try simp only [Act.put, List.getElem_toArray, List.getElem_cons_succ, List.getElem_cons_zero, List.setIfInBounds_toArray, List.set_cons_zero, List.set_cons_succ]
  refine wpHd_take (i := 5) (v := ?_) (by kernel_rfl) rfl (by kernel_rfl) (fun _ _ _ h => h) (.inl ⟨by rfl, ?_⟩) hSS ?_
  rotate_left
  · intro w hSw; (try dsimp only at hSw); go_simp; (try with_reducible rfl)
  refine wpHd_take (i := 6) (v := ?_) (by kernel_rfl) rfl (by kernel_rfl) (fun _ _ _ h => h) (.inl ⟨by rfl, ?_⟩) hSS ?_
  rotate_left
  · intro w hSw; (try dsimp only at hSw); go_simp; (try with_reducible rfl)
  try simp only [Act.put, List.getElem_toArray, List.getElem_cons_succ, List.getElem_cons_zero, List.setIfInBounds_toArray, List.set_cons_zero, List.set_cons_succ]
  refine wpHd_end (by kernel_rfl) ?_
  have x2 : W9.drew.cell? ⟨i.db, n, none⟩ = some (dv n) := (H9.out.cd HN.out).1
  have x3 : W9.drew.frozen? ⟨i.db, n, none⟩ = false := (H9.out.cd HN.out).2
  have hn0 : (0 : Int) ≤ (n : Int) := Int.natCast_nonneg n
  have hn1 : (n : Int) < 32 := by have := HN.out; omega
  clear hSS k1 k3
  go_upto_region 14 with fail
  have ho10 : Only (RcW o i) W9 (W9.drew.setCell ⟨i.db, n, none⟩ (.slice A2 dl.length c2)) := ((Only.refl (RcW o i) W9).drew).trans Only.db
  have hj10 : Only (Just i.db) W9 (W9.drew.setCell ⟨i.db, n, none⟩ (.slice A2 dl.length c2)) := ((Only.refl (Just i.db) W9).drew).setCell (p := ⟨i.db, n, none⟩) (.inl (show Just i.db i.db from rfl)) _
  have H10 := Lib.hid (RchB.setd (w := W9.drew) (H9.out.keep ((Only.refl Non W9).drew)) HN.out (HRB9.out.keep ((Only.refl Non W9).drew)) HB9.out)
  have HT10 := Lib.hid (ho10.box HT9.out (HW.out tb HTB.out))
  have HR10 := Lib.hid (ho10.box HR9.out (HW.out rb HRB.out))
  have HO10 := Lib.hid (HX9.out.trans ho10)
  change Code.wp _ _ _ _ (W9.drew.setCell ⟨i.db, n, none⟩ (.slice A2 dl.length c2))
  clear ho10 hj10 x2 x3 hn0 hn1 HT9 HR9 HX9 H9 HF9 
  generalize W9.drew.setCell ⟨i.db, n, none⟩ (.slice A2 dl.length c2) = W10 at *
  go_wp2_with (first | (refine wpList_load_row rfl 160 _ rfl tb rfl 160 (rwC 0 (.slice none 0 0) false 0) (0, 0) _ HT10.out Tryz.underlying160 rfl (by kernel_rfl) ?_) | (refine wpList_store_row rfl 160 _ _ rfl rb (rwC 0 (.slice none 0 0) false 0) rfl rfl 160 _ HR10.out (by kernel_rfl) rfl (rwC_one _ _ _ _ _ _) ?_))
  refine bodyPost_ret (results_cell_row rfl _ _ rb _ (rwC 0 (.slice none 0 0) false 0) (0, 0) _ rfl (HR10.out.setRow' _) Tryz.underlying160 rfl (by kernel_rfl)) rfl ?_
  have hos : Only (Just rb) W10 (W10.setRow rb (rwC 0 (.slice none 0 0) false 0)) := (Only.refl (Just rb) W10).setRow' (.inl (show Just rb rb from rfl)) _
  unfold RPutP
  rw [HG.out]
  rw [if_neg (by decide), if_neg (by decide), HSS2.out]
  exact ⟨_, rfl, RByt.nil _, fun j hj => (ownB_none hj).elim, ⟨_, _, H10.out.offT HR10.out (by decide) (by decide) (HW.out rb HRB.out) hos⟩, HO10.out.setRow' (.inr HRB.out) _⟩
theorem rch_put_gone {n : Nat} {dl : List Int} {u : Value} {level : Int} (h : Rch o i s Dr w) (hI : o.Inv s) (h2 : (n : Int) < c.f 2) (hl : (dl.length : Int) = c.f 3) (ht : takesB c k n level = true) (hts : K.sp.takes n) (hage : K.sp.age s < maxAge) (hby : Byt w u dl)
    (hu : ∀ j, ownB u j → ¬ RcW o i j) (hg : (K.sp.add s n).2.2 = true) {m : Nat} (hm : (K.sp.add s n).2.1 = (m : Int)) (hm32 : m < 32) :
    Calls Tryz.prog 93 #[.pointer (some ⟨i.cb, 0, none⟩), .agg #[.int .i64 n, u], .int .i64 level] w (RPutP o i s Dr n dl w) := by
  have hx0 : decide ((n : Int) < 0) = false := decide_eq_false (by omega)
  have hx2 : decide (c.f 2 ≤ (n : Int)) = false := decide_eq_false (by omega)
  have hx3 : ((dl.length : Int) != c.f 3) = false := by rw [bne_eq_false_iff_eq]; exact hl
  have HN := Lib.hid (show n < 32 by obtain ⟨lv, dv, h⟩ := h; have := h.right.p2; omega)
  have HL := Lib.hid hl
  have HUS := Lib.hid hu
  have HT := Lib.hid fun (W : World) (hC : Rch o i s Dr W) => by have := rch_takes (n : Int) level hC hI; rw [ht] at this; exact this
  have HU := Lib.hid fun (W : World) (lv : Value) (dv : Nat → Value) (hC : RchB o i s lv dv Dr W) => o.add hC.ord hI hC.box hC.cbB.2 (Int.natCast_nonneg n) (show (n : Int) < 64 by have := HN.out; omega) hts hage
  have HG := Lib.hid hg
  have HM := Lib.hid hm
  have HM32 := Lib.hid hm32
  obtain ⟨A, cp, rfl, hle, hmax, hsrc⟩ := hby
  have HSRC := Lib.hid hsrc
  have HMAX := Lib.hid hmax
  obtain ⟨lv, dv, h⟩ := h
  have HW := Lib.hid fun (g : Nat) (hg : w.heap.size ≤ g) => h.notW hg
  have HB := Lib.hid (Box.fresh w 38 #[.int .i64 n, .slice A dl.length cp])
  have HO := Lib.hid ((Only.refl Non w).alloc (.cells #[.int .i64 n, .slice A dl.length cp] 38))
  have H := Lib.hid (h.keep HO.out)
  have HP3 := Lib.hid h.right.p3
  clear hsrc hmax hle h hl hI h2 ht hts hage hg hu hm hm32
  go_enter Tryz.func93, Tryz.ntmps93
  go_upto_region 1 with fail
  change Code.wp _ _ _ _ ((w.alloc (.cells #[.int .i64 n, .slice A dl.length cp] 38)).alloc (.cells (rwC 0 (.slice none 0 0) false 0) 160))
  have hsz : (w.alloc (.cells #[.int .i64 n, .slice A dl.length cp] 38)).heap.size = w.heap.size + 1 := World.size_alloc ..
  generalize w.alloc (.cells #[.int .i64 n, .slice A dl.length cp] 38) = W0 at *
  obtain ⟨fb, hfb⟩ : ∃ fb, fb = w.heap.size := ⟨_, rfl⟩
  have HLB := Lib.hid (show w.heap.size ≤ fb from Nat.le_of_eq hfb.symm)
  rw [← hfb] at HB hsz ⊢
  clear hfb
  have ho1 : Only Non W0 (W0.alloc (.cells (rwC 0 (.slice none 0 0) false 0) 160)) := (Only.refl Non W0).alloc _
  have HR1 := Lib.hid (Box.fresh W0 160 (rwC 0 (.slice none 0 0) false 0))
  have HF1 := Lib.hid (ho1.box HB.out id)
  have HO1 := Lib.hid (HO.out.trans ho1)
  have H1 := Lib.hid (H.out.keep ho1)
  clear ho1 HB HO H
  generalize W0.alloc (.cells (rwC 0 (.slice none 0 0) false 0) 160) = W1 at *
  rw [hsz] at HR1
  clear hsz
  have HRB := Lib.hid (show w.heap.size ≤ fb + 1 by have := HLB.out; omega)
  generalize fb + 1 = rb at *
  have k1 : W1.drew.cell? ⟨fb, 0, none⟩ = some (.int .i64 n) := HF1.out.cellAt rfl
  have k3 : W1.drew.cell? ⟨i.cb, 2, none⟩ = some (.int .i64 (c.f 2)) := rcC_f H1.out.box (by decide)
  refine wp_region_tail (S := (fun w' : World => w'.cell? ⟨fb, 0, none⟩ = some (.int .i64 n) ∧ w'.cell? ⟨i.cb, 2, none⟩ = some (.int .i64 (c.f 2)))) 12 (by kernel_rfl) (by kernel_rfl) ?_ ?_
  · exact ⟨by assumption, by assumption⟩
  intro hSS
  refine wpHd_take (i := 0) (v := ?_) (by kernel_rfl) rfl (by kernel_rfl) (fun _ _ _ h => h) (.inl ⟨by rfl, ?_⟩) hSS ?_
  rotate_left
  · intro w hSw; (try dsimp only at hSw); go_simp; (try with_reducible rfl)
  refine wpHd_take (i := 1) (v := ?_) (by kernel_rfl) rfl (by kernel_rfl) (fun _ _ _ h => h) (.inl ⟨by rfl, ?_⟩) hSS ?_
  rotate_left
  · intro w hSw; (try dsimp only at hSw); go_simp; (try with_reducible rfl)
  refine wpHd_take (i := 2) (v := ?_) (by kernel_rfl) rfl (by kernel_rfl) (fun _ _ _ h => h) (.inl ⟨by rfl, ?_⟩) hSS ?_
  rotate_left
  · intro w hSw; (try dsimp only at hSw); go_simp; (try with_reducible rfl)
  refine wpHd_take (i := 3) (v := ?_) (by kernel_rfl) rfl (by kernel_rfl) (fun _ _ _ h => h) (.inl ⟨by rfl, ?_⟩) hSS ?_
  rotate_left
  · intro w hSw; (try dsimp only at hSw); go_simp; (try with_reducible rfl)
  refine wpHd_take (i := 4) (v := ?_) (by kernel_rfl) rfl (by kernel_rfl) (fun _ _ _ h => h) (.inl ⟨by rfl, ?_⟩) hSS ?_
  rotate_left
  · intro w hSw; (try dsimp only at hSw); go_simp; (try with_reducible rfl)
  try simp only [Act.put, List.getElem_toArray, List.getElem_cons_succ, List.getElem_cons_zero, List.setIfInBounds_toArray, List.set_cons_zero, List.set_cons_succ]
  refine wpHd_take (i := 5) (v := ?_) (by kernel_rfl) rfl (by kernel_rfl) (fun _ _ _ h => h) (.inl ⟨by rfl, ?_⟩) hSS ?_
  rotate_left
  · intro w hSw; (try dsimp only at hSw); go_simp; (try with_reducible rfl)
  refine wpHd_take (i := 6) (v := ?_) (by kernel_rfl) rfl (by kernel_rfl) (fun _ _ _ h => h) (.inl ⟨by rfl, ?_⟩) hSS ?_
  rotate_left
  · intro w hSw; (try dsimp only at hSw); go_simp; (try with_reducible rfl)
  refine wpHd_take (i := 7) (v := ?_) (by kernel_rfl) rfl (by kernel_rfl) (fun _ _ _ h => h) (.inl ⟨by rfl, ?_⟩) hSS ?_
  rotate_left
  · intro w hSw; (try dsimp only at hSw); go_simp; (try with_reducible rfl)
  refine wpHd_take (i := 8) (v := ?_) (by kernel_rfl) rfl (by kernel_rfl) (fun _ _ _ h => h) (.inl ⟨by rfl, ?_⟩) hSS ?_
  rotate_left
  · intro w hSw; (try dsimp only at hSw); go_simp; (try with_reducible rfl)
  refine wpHd_take (i := 9) (v := ?_) (by kernel_rfl) rfl (by kernel_rfl) (fun _ _ _ h => h) (.inl ⟨by rfl, ?_⟩) hSS ?_
  rotate_left
  · intro w hSw; (try dsimp only at hSw); go_simp; (try with_reducible rfl)
  try simp only [Act.put, List.getElem_toArray, List.getElem_cons_succ, List.getElem_cons_zero, List.setIfInBounds_toArray, List.set_cons_zero, List.set_cons_succ]
  refine wpHd_take (i := 10) (v := ?_) (by kernel_rfl) rfl (by kernel_rfl) (fun _ _ _ h => h) (.inl ⟨by rfl, ?_⟩) hSS ?_
  rotate_left
  · intro w hSw; (try dsimp only at hSw); go_simp; (try with_reducible rfl)
  refine wpHd_take (i := 11) (v := ?_) (by kernel_rfl) rfl (by kernel_rfl) (fun _ _ _ h => h) (.inl ⟨by rfl, ?_⟩) hSS ?_
  rotate_left
  · intro w hSw; (try dsimp only at hSw); go_simp; (try with_reducible rfl)
  try simp only [Act.put, List.getElem_toArray, List.getElem_cons_succ, List.getElem_cons_zero, List.setIfInBounds_toArray, List.set_cons_zero, List.set_cons_succ]
  refine wpHd_end (by kernel_rfl) ?_
  clear hSS k1 k3
  go_upto_region 3 with fail
  have HR2 := Lib.hid (show Box W1.drew rb 160 (rwC 0 (.slice none 0 0) false 0) from HR1.out)
  have HF2 := Lib.hid (show Box W1.drew fb 38 _ from HF1.out)
  have HO2 := Lib.hid HO1.out.drew
  have H2 := Lib.hid (H1.out.keep ((Only.refl Non W1).drew))
  clear HR1 HF1 HO1 H1
  generalize W1.drew = W2 at *
  have k1 : W2.drew.cell? ⟨fb, 1, none⟩ = some (.slice A dl.length cp) := HF2.out.cellAt rfl
  have k3 : W2.drew.cell? ⟨i.cb, 3, none⟩ = some (.int .i64 (c.f 3)) := rcC_f H2.out.box (by decide)
  refine wp_region_tail (S := (fun w' : World => w'.cell? ⟨fb, 1, none⟩ = some (.slice A dl.length cp) ∧ w'.cell? ⟨i.cb, 3, none⟩ = some (.int .i64 (c.f 3)))) 8 (by kernel_rfl) (by kernel_rfl) ?_ ?_
  · exact ⟨by assumption, by assumption⟩
  intro hSS
  refine wpHd_take (i := 0) (v := ?_) (by kernel_rfl) rfl (by kernel_rfl) (fun _ _ _ h => h) (.inl ⟨by rfl, ?_⟩) hSS ?_
  rotate_left
  · intro w hSw; (try dsimp only at hSw); go_simp; (try with_reducible rfl)
  refine wpHd_take (i := 1) (v := ?_) (by kernel_rfl) rfl (by kernel_rfl) (fun _ _ _ h => h) (.inl ⟨by rfl, ?_⟩) hSS ?_
  rotate_left
  · intro w hSw; (try dsimp only at hSw); go_simp; (try with_reducible rfl)
  refine wpHd_take (i := 2) (v := ?_) (by kernel_rfl) rfl (by kernel_rfl) (fun _ _ _ h => h) (.inl ⟨by rfl, ?_⟩) hSS ?_
  rotate_left
  · intro w hSw; (try dsimp only at hSw); go_simp; (try with_reducible rfl)
  refine wpHd_take (i := 3) (v := ?_) (by kernel_rfl) rfl (by kernel_rfl) (fun _ _ _ h => h) (.inl ⟨by rfl, ?_⟩) hSS ?_
  rotate_left
  · intro w hSw; (try dsimp only at hSw); go_simp; (try with_reducible rfl)
  refine wpHd_take (i := 4) (v := ?_) (by kernel_rfl) rfl (by kernel_rfl) (fun _ _ _ h => h) (.inl ⟨by rfl, ?_⟩) hSS ?_
  rotate_left
  · intro w hSw; (try dsimp only at hSw); go_simp; (try with_reducible rfl)
  try simp only [Act.put, List.getElem_toArray, List.getElem_cons_succ, List.getElem_cons_zero, List.setIfInBounds_toArray, List.set_cons_zero, List.set_cons_succ]
  refine wpHd_take (i := 5) (v := ?_) (by kernel_rfl) rfl (by kernel_rfl) (fun _ _ _ h => h) (.inl ⟨by rfl, ?_⟩) hSS ?_
  rotate_left
  · intro w hSw; (try dsimp only at hSw); go_simp; (try with_reducible rfl)
  refine wpHd_take (i := 6) (v := ?_) (by kernel_rfl) rfl (by kernel_rfl) (fun _ _ _ h => h) (.inl ⟨by rfl, ?_⟩) hSS ?_
  rotate_left
  · intro w hSw; (try dsimp only at hSw); go_simp; (try with_reducible rfl)
  refine wpHd_take (i := 7) (v := ?_) (by kernel_rfl) rfl (by kernel_rfl) (fun _ _ _ h => h) (.inl ⟨by rfl, ?_⟩) hSS ?_
  rotate_left
  · intro w hSw; (try dsimp only at hSw); go_simp; (try with_reducible rfl)
  try simp only [Act.put, List.getElem_toArray, List.getElem_cons_succ, List.getElem_cons_zero, List.setIfInBounds_toArray, List.set_cons_zero, List.set_cons_succ]
  refine wpHd_end (by kernel_rfl) ?_
  clear hSS k1 k3
  go_upto_region 5 with fail
  have HR3 := Lib.hid (show Box W2.drew rb 160 (rwC 0 (.slice none 0 0) false 0) from HR2.out)
  have HF3 := Lib.hid (show Box W2.drew fb 38 _ from HF2.out)
  have HO3 := Lib.hid HO2.out.drew
  have H3 := Lib.hid (H2.out.keep ((Only.refl Non W2).drew))
  clear HR2 HF2 HO2 H2
  generalize W2.drew = W3 at *
  have y0 : W3.cell? ⟨fb, 0, none⟩ = some (.int .i64 n) := HF3.out.cellAt rfl
  go_upto_region 7 with (go_at_call 31; refine (HT.out W3 ⟨_, _, H3.out⟩).mono ?_; rintro e W4 ⟨rfl, ho4⟩)
  have HR4 := Lib.hid (ho4.box HR3.out id)
  have HF4 := Lib.hid (ho4.box HF3.out id)
  have HO4 := Lib.hid (HO3.out.trans ho4)
  have H4 := Lib.hid (H3.out.keep ho4)
  clear ho4 y0 HR3 HF3 HO3 H3 hx0 hx2 hx3
  have y0 : W4.cell? ⟨fb, 0, none⟩ = some (.int .i64 n) := HF4.out.cellAt rfl
  generalize hwas : decide ((n : Int) ∈ K.sp.all s) = was at *
  have HWAS := Lib.hid hwas
  clear hwas
  rw [HG.out] at HU
  rw [HM.out] at HU
  generalize hss : (K.sp.add s n).1 = s2 at *
  have HSS2 := Lib.hid hss
  clear hss
  go_upto_region 8 with (first | (go_at_call 162; refine (HU.out W4 _ _ H4.out).mono ?_; rintro e W5 ⟨A5, n5, m5, lv5, rfl, h1, h2, h3⟩; have H5 := Lib.hid (H4.out.turn h1 h2 h3); have HR5 := Lib.hid (h3.box HR4.out fun e => HW.out rb HRB.out (RoF.toW e)); have HF5 := Lib.hid (h3.box HF4.out fun e => HW.out fb HLB.out (RoF.toW e)); have HO5 := Lib.hid ((HO4.out.mono (S' := RcW o i) fun _ h => h.elim).trans (h3.mono fun j hj => .inl (RoF.toW hj))); clear h1 h2 h3) | (refine wpList_store_row rfl 252 _ _ rfl W5.heap.size (dwC (.slice A5 n5 m5) m true was 0) rfl rfl 252 _ (Box.fresh W5 252 (dwC (.slice none 0 0) 0 false false 0)) (by kernel_rfl) rfl (dwC_one _ _ _ _ _ _ _) ?_))
  have ho6 : Only Non W5 ((W5.alloc (.cells (dwC (.slice none 0 0) 0 false false 0) 252)).setRow W5.heap.size (dwC (.slice A5 n5 m5) m true was 0)) := ((Only.refl Non W5).alloc _).setRow' (.inr (Nat.le_refl _)) _
  have HE6 := Lib.hid ((Box.fresh W5 252 (dwC (.slice none 0 0) 0 false false 0)).setRow' (dwC (.slice A5 n5 m5) m true was 0))
  have HR6 := Lib.hid (ho6.box HR5.out id)
  have HF6 := Lib.hid (ho6.box HF5.out id)
  have HO6 := Lib.hid (HO5.out.transN ho6)
  have H6 := Lib.hid (H5.out.keep ho6)
  have HEB := Lib.hid (show w.heap.size ≤ W5.heap.size from HO5.out.size)
  clear ho6 HR5 HF5 HO5 H5 HR4 HF4 HO4 H4 y0 HU
  change Code.wp _ _ _ _ ((W5.alloc (.cells (dwC (.slice none 0 0) 0 false false 0) 252)).setRow W5.heap.size (dwC (.slice A5 n5 m5) m true was 0))
  generalize (W5.alloc (.cells (dwC (.slice none 0 0) 0 false false 0) 252)).setRow W5.heap.size (dwC (.slice A5 n5 m5) m true was 0) = W6 at *
  generalize W5.heap.size = eb at *
  have y2 : W6.cell? ⟨eb, 2, none⟩ = some (.bool true) := HE6.out.cellAt rfl
  go_upto_region 9 with (refine wpList_store_row rfl 160 _ _ rfl W6.heap.size (rwC 0 (.slice none 0 0) true 0) rfl rfl 160 _ (Box.fresh W6 160 (rwC 0 (.slice none 0 0) false 0)) (by kernel_rfl) rfl (rwC_one _ _ _ _ _ _) ?_)
  have ho7 : Only Non W6 ((W6.alloc (.cells (rwC 0 (.slice none 0 0) false 0) 160)).setRow W6.heap.size (rwC 0 (.slice none 0 0) true 0)) := ((Only.refl Non W6).alloc _).setRow' (.inr (Nat.le_refl _)) _
  have HT7 := Lib.hid ((Box.fresh W6 160 (rwC 0 (.slice none 0 0) false 0)).setRow' (rwC 0 (.slice none 0 0) true 0))
  have HR7 := Lib.hid (ho7.box HR6.out id)
  have HF7 := Lib.hid (ho7.box HF6.out id)
  have HE7 := Lib.hid (ho7.box HE6.out id)
  have HO7 := Lib.hid (HO6.out.transN ho7)
  have H7 := Lib.hid (H6.out.keep ho7)
  have HTB := Lib.hid (show w.heap.size ≤ W6.heap.size from HO6.out.size)
  have HRT := Lib.hid (show rb ≠ W6.heap.size from Nat.ne_of_lt HR6.out.lt)
  clear ho7 HR6 HF6 HO6 H6 HE6 y2
  change Code.wp _ _ _ _ ((W6.alloc (.cells (rwC 0 (.slice none 0 0) false 0) 160)).setRow W6.heap.size (rwC 0 (.slice none 0 0) true 0))
  generalize (W6.alloc (.cells (rwC 0 (.slice none 0 0) false 0) 160)).setRow W6.heap.size (rwC 0 (.slice none 0 0) true 0) = W7 at *
  generalize W6.heap.size = tb at *
  have y2 : W7.cell? ⟨eb, 2, none⟩ = some (.bool true) := HE7.out.cellAt rfl
  go_upto_region 10 with fail
  obtain ⟨hdm, hdB⟩ := H7.out.dat m HM32.out
  obtain ⟨Am, cm, edm⟩ := hdm.shape
  have k4 := (H7.out.cd HM32.out).1
  rw [edm] at hdm hdB k4
  have HDM := Lib.hid hdm
  have HDB := Lib.hid hdB
  clear hdm hdB edm
  have k4 : W7.drew.cell? ⟨i.db, m, none⟩ = some (.slice Am (Dr m).length cm) := k4
  have k1 : W7.drew.cell? ⟨eb, 1, none⟩ = some (.int .i64 m) := HE7.out.cellAt rfl
  have k3 : W7.drew.cell? ⟨i.cb, 21, none⟩ = some (.slice (some ⟨i.db, 0, none⟩) 32 i.dc) := H7.out.c21
  have hm0 : (0 : Int) ≤ (m : Int) := Int.natCast_nonneg m
  have hm1 : (m : Int) < 32 := by have := HM32.out; omega
  refine wp_region_tail (S := (fun w' : World => w'.cell? ⟨eb, 1, none⟩ = some (.int .i64 m) ∧ w'.cell? ⟨i.cb, 21, none⟩ = some (.slice (some ⟨i.db, 0, none⟩) 32 i.dc) ∧ w'.cell? ⟨i.db, m, none⟩ = some (.slice Am (Dr m).length cm))) 11 (by kernel_rfl) (by kernel_rfl) ?_ ?_
  · exact ⟨by assumption, by assumption, by assumption⟩
  intro hSS
  refine wpHd_take (i := 0) (v := ?_) (by kernel_rfl) rfl (by kernel_rfl) (fun _ _ _ h => h) (.inl ⟨by rfl, ?_⟩) hSS ?_
  rotate_left
  · intro w hSw; (try dsimp only at hSw); go_simp; (try with_reducible rfl)
  refine wpHd_take (i := 1) (v := ?_) (by kernel_rfl) rfl (by kernel_rfl) (fun _ _ _ h => h) (.inl ⟨by rfl, ?_⟩) hSS ?_
  rotate_left
  · intro w hSw; (try dsimp only at hSw); go_simp; (try with_reducible rfl)
  refine wpHd_take (i := 2) (v := ?_) (by kernel_rfl) rfl (by kernel_rfl) (fun _ _ _ h => h) (.inl ⟨by rfl, ?_⟩) hSS ?_
  rotate_left
  · intro w hSw; (try dsimp only at hSw); go_simp; (try with_reducible rfl)
  refine wpHd_take (i := 3) (v := ?_) (by kernel_rfl) rfl (by kernel_rfl) (fun _ _ _ h => h) (.inl ⟨by rfl, ?_⟩) hSS ?_
  rotate_left
  · intro w hSw; (try dsimp only at hSw); go_simp; (try with_reducible rfl)
  refine wpHd_take (i := 4) (v := ?_) (by kernel_rfl) rfl (by kernel_rfl) (fun _ _ _ h => h) (.inl ⟨by rfl, ?_⟩) hSS ?_
  rotate_left
  · intro w hSw; (try dsimp only at hSw); go_simp; (try with_reducible rfl)
  try simp only [Act.put, List.getElem_toArray, List.getElem_cons_succ, List.getElem_cons_zero, List.setIfInBounds_toArray, List.set_cons_zero, List.set_cons_succ]
  refine wpHd_take (i := 5) (v := ?_) (by kernel_rfl) rfl (by kernel_rfl) (fun _ _ _ h => h) (.inl ⟨by rfl, ?_⟩) hSS ?_
  rotate_left
  · intro w hSw; (try dsimp only at hSw); go_simp; (try with_reducible rfl)
  refine wpHd_take (i := 6) (v := ?_) (by kernel_rfl) rfl (by kernel_rfl) (fun _ _ _ h => h) (.inl ⟨by rfl, ?_⟩) hSS ?_
  rotate_left
  · intro w hSw; (try dsimp only at hSw); go_simp; (try with_reducible rfl)
  refine wpHd_take (i := 7) (v := ?_) (by kernel_rfl) rfl (by kernel_rfl) (fun _ _ _ h => h) (.inl ⟨by rfl, ?_⟩) hSS ?_
  rotate_left
  · intro w hSw; (try dsimp only at hSw); go_simp; (try with_reducible rfl)
  refine wpHd_take (i := 8) (v := ?_) (by kernel_rfl) rfl (by kernel_rfl) (fun _ _ _ h => h) (.inl ⟨by rfl, ?_⟩) hSS ?_
  rotate_left
  · intro w hSw; (try dsimp only at hSw); go_simp; (try with_reducible rfl)
  refine wpHd_take (i := 9) (v := ?_) (by kernel_rfl) rfl (by kernel_rfl) (fun _ _ _ h => h) (.inl ⟨by rfl, ?_⟩) hSS ?_
  rotate_left
  · intro w hSw; (try dsimp only at hSw); go_simp; (try with_reducible rfl)
  try simp only [Act.put, List.getElem_toArray, List.getElem_cons_succ, List.getElem_cons_zero, List.setIfInBounds_toArray, List.set_cons_zero, List.set_cons_succ]
  refine wpHd_one (i := 10) rfl (by kernel_rfl) (fun K hK => ?_)
  go_simp
  refine hK.out _ _ hSS (fun hSS => ?_)
  clear hK
  try simp only [Act.put, List.getElem_toArray, List.getElem_cons_succ, List.getElem_cons_zero, List.setIfInBounds_toArray, List.set_cons_zero, List.set_cons_succ]
  refine wpHd_end (by kernel_rfl) ?_
  clear hSS k1 k3 k4 y2 hm0 hm1
  have HTH := Lib.hid (show W7.drew.there tb 0 2 from (show Box W7.drew tb 160 _ from HT7.out).there (by decide))
  go_upto_region 11 with (refine wpList_store_mid rfl 38 _ _ rfl tb 0 #[.int .i64 m, .slice Am (Dr m).length cm] rfl rfl HTH.out (by kernel_rfl) (by simp [Value.oneCell']) ?_)
  have ho8 : Only (Just tb) W7 ((W7.drew.setCell ⟨tb, 0, none⟩ (.int .i64 m)).setCell ⟨tb, 1, none⟩ (.slice Am (Dr m).length cm)) := (((Only.refl (Just tb) W7).drew).setCell (p := ⟨tb, 0, none⟩) (.inl (show Just tb tb from rfl)) _).setCell (p := ⟨tb, 1, none⟩) (.inl (show Just tb tb from rfl)) _
  have HT8 := Lib.hid (show Box _ tb 160 (rwC m (.slice Am (Dr m).length cm) true 0) from ((show Box W7.drew tb 160 _ from HT7.out).store 0 (.int .i64 m)).store 1 (.slice Am (Dr m).length cm))
  have HR8 := Lib.hid (ho8.box HR7.out HRT.out)
  have HF8 := Lib.hid (ho8.box HF7.out (HF7.out.off HT7.out (by decide)))
  have H8 := Lib.hid (H7.out.offT HT7.out (by decide) (by decide) (HW.out tb HTB.out) ho8)
  have HO8 := Lib.hid (HO7.out.trans' ho8 fun j hj => .inr (by rw [show j = tb from hj]; exact HTB.out))
  have HD8 := Lib.hid (HDM.out.only ho8 fun j hj e => by
    obtain ⟨cs, hb⟩ := HDM.out.1.box hj
    exact (hb.off HT7.out (by decide)) e)
  change Code.wp _ _ _ _ ((W7.drew.setCell ⟨tb, 0, none⟩ (.int .i64 m)).setCell ⟨tb, 1, none⟩ (.slice Am (Dr m).length cm))
  clear ho8 HTH HT7 HR7 HF7 HO7 H7 HDM HE7
  generalize (W7.drew.setCell ⟨tb, 0, none⟩ (.int .i64 m)).setCell ⟨tb, 1, none⟩ (.slice Am (Dr m).length cm) = W8 at *
  have HSR := Lib.hid (HSRC.out.only HO8.out fun g' o' e' _ hw => HUS.out g' (by rw [e']; exact ownB_slice.2 rfl) hw)
  have y1 : W8.cell? ⟨fb, 1, none⟩ = some (.slice A dl.length cp) := HF8.out.cellAt rfl
  have HB1 := Lib.hid (show ([] : List Value).length + (bytes dl).length ≤ maxLen by rw [byt_len]; have := HL.out; have := HP3.out; unfold maxLen; simp; omega)
  have HB2 := Lib.hid (show (([] : List Value).length + (bytes dl).length) * 1 ≤ 140737488355328 by rw [byt_len]; have := HL.out; have := HP3.out; simp; omega)
  go_upto_region 13 with (at_builtin; refine wpList_append_row _ rfl (.tmp 63) (.tmp 65) 36 5 rfl byteInfo rfl Tryz.underlying36 (.slice none 0 0) [] rfl (Row.nil_ _ _) A dl.length cp (bytes dl) rfl (by rw [byt_len]) HSR.out (bytes_one dl) HB1.out HB2.out ?_; intro v' W9 hr9 ho9 hk9 _; have HV9 := Lib.hid hr9; have HO9 := Lib.hid (ho9.mono (S' := Non) fun j hj => (ownB_none hj).elim); have HK9 := Lib.hid hk9; clear hr9 ho9 hk9)
  rw [List.nil_append] at HV9
  have hrb : RByt W9 v' dl := ⟨HV9.out, by have := HL.out; have := HP3.out; omega⟩
  obtain ⟨A2, c2, e2⟩ := hrb.shape
  subst e2
  have HB9 := Lib.hid (show ∀ j, ownB (.slice A2 dl.length c2) j → o.B ≤ j from fun j hj => by
    rcases HK9.out j hj with h | h
    · exact (ownB_none h).elim
    · have := H8.out.bs; omega)
  have HRB9 := Lib.hid hrb
  have H9 := Lib.hid (H8.out.keep HO9.out)
  have HF9 := Lib.hid (HO9.out.box HF8.out id)
  have HR9 := Lib.hid (HO9.out.box HR8.out id)
  have HT9 := Lib.hid (HO9.out.box HT8.out id)
  have HX9 := Lib.hid (HO8.out.transN HO9.out)
  have HD9 := Lib.hid (HD8.out.keep HO9.out)
  clear hrb y1 HF8 H8 HR8 HT8 HO8 HSR HB1 HB2 HD8
  have k1 : W9.drew.cell? ⟨fb, 0, none⟩ = some (.int .i64 n) := HF9.out.cellAt rfl
  have k3 : W9.drew.cell? ⟨i.cb, 21, none⟩ = some (.slice (some ⟨i.db, 0, none⟩) 32 i.dc) := H9.out.c21
  refine wp_region_tail (S := (fun w' : World => w'.cell? ⟨fb, 0, none⟩ = some (.int .i64 n) ∧ w'.cell? ⟨i.cb, 21, none⟩ = some (.slice (some ⟨i.db, 0, none⟩) 32 i.dc))) 7 (by kernel_rfl) (by kernel_rfl) ?_ ?_
  · exact ⟨by assumption, by assumption⟩
  intro hSS
  refine wpHd_take (i := 0) (v := ?_) (by kernel_rfl) rfl (by kernel_rfl) (fun _ _ _ h => h) (.inl ⟨by rfl, ?_⟩) hSS ?_
  rotate_left
  · intro w hSw; (try dsimp only at hSw); go_simp; (try with_reducible rfl)
  refine wpHd_take (i := 1) (v := ?_) (by kernel_rfl) rfl (by kernel_rfl) (fun _ _ _ h => h) (.inl ⟨by rfl, ?_⟩) hSS ?_
  rotate_left
  · intro w hSw; (try dsimp only at hSw); go_simp; (try with_reducible rfl)
  refine wpHd_take (i := 2) (v := ?_) (by kernel_rfl) rfl (by kernel_rfl) (fun _ _ _ h => h) (.inl ⟨by rfl, ?_⟩) hSS ?_
  rotate_left
  · intro w hSw; (try dsimp only at hSw); go_simp; (try with_reducible rfl)
  refine wpHd_take (i := 3) (v := ?_) (by kernel_rfl) rfl (by kernel_rfl) (fun _ _ _ h => h) (.inl ⟨by rfl, ?_⟩) hSS ?_
  rotate_left
  · intro w hSw; (try dsimp only at hSw); go_simp; (try with_reducible rfl)
  refine wpHd_take (i := 4) (v := ?_) (by kernel_rfl) rfl (by kernel_rfl) (fun _ _ _ h => h) (.inl ⟨by rfl, ?_⟩) hSS ?_
  rotate_left
  · intro w hSw; (try dsimp only at hSw); go_simp; (try with_reducible rfl)
  try simp only [Act.put, List.getElem_toArray, List.getElem_cons_succ, List.getElem_cons_zero, List.setIfInBounds_toArray, List.set_cons_zero, List.set_cons_succ]
  refine wpHd_take (i := 5) (v := ?_) (by kernel_rfl) rfl (by kernel_rfl) (fun _ _ _ h => h) (.inl ⟨by rfl, ?_⟩) hSS ?_
  rotate_left
  · intro w hSw; (try dsimp only at hSw); go_simp; (try with_reducible rfl)
  refine wpHd_take (i := 6) (v := ?_) (by kernel_rfl) rfl (by kernel_rfl) (fun _ _ _ h => h) (.inl ⟨by rfl, ?_⟩) hSS ?_
  rotate_left
  · intro w hSw; (try dsimp only at hSw); go_simp; (try with_reducible rfl)
  try simp only [Act.put, List.getElem_toArray, List.getElem_cons_succ, List.getElem_cons_zero, List.setIfInBounds_toArray, List.set_cons_zero, List.set_cons_succ]
  refine wpHd_end (by kernel_rfl) ?_
  have x2 : W9.drew.cell? ⟨i.db, n, none⟩ = some (dv n) := (H9.out.cd HN.out).1
  have x3 : W9.drew.frozen? ⟨i.db, n, none⟩ = false := (H9.out.cd HN.out).2
  have hn0 : (0 : Int) ≤ (n : Int) := Int.natCast_nonneg n
  have hn1 : (n : Int) < 32 := by have := HN.out; omega
  clear hSS k1 k3
  go_upto_region 14 with fail
  have ho10 : Only (RcW o i) W9 (W9.drew.setCell ⟨i.db, n, none⟩ (.slice A2 dl.length c2)) := ((Only.refl (RcW o i) W9).drew).trans Only.db
  have hj10 : Only (Just i.db) W9 (W9.drew.setCell ⟨i.db, n, none⟩ (.slice A2 dl.length c2)) := ((Only.refl (Just i.db) W9).drew).setCell (p := ⟨i.db, n, none⟩) (.inl (show Just i.db i.db from rfl)) _
  have H10 := Lib.hid (RchB.setd (w := W9.drew) (H9.out.keep ((Only.refl Non W9).drew)) HN.out (HRB9.out.keep ((Only.refl Non W9).drew)) HB9.out)
  have HT10 := Lib.hid (ho10.box HT9.out (HW.out tb HTB.out))
  have HR10 := Lib.hid (ho10.box HR9.out (HW.out rb HRB.out))
  have HO10 := Lib.hid (HX9.out.trans ho10)
  have HD10 := Lib.hid (HD9.out.only hj10 fun j hj e => by
    obtain ⟨cs, hb⟩ := HD9.out.1.box hj
    obtain ⟨cs2, hb2⟩ := H9.out.row.box (k := i.db) (ownB_slice.2 rfl)
    exact (hb.off hb2 (by decide)) e)
  change Code.wp _ _ _ _ (W9.drew.setCell ⟨i.db, n, none⟩ (.slice A2 dl.length c2))
  clear ho10 hj10 x2 x3 hn0 hn1 HT9 HR9 HX9 H9 HF9 HD9
  generalize W9.drew.setCell ⟨i.db, n, none⟩ (.slice A2 dl.length c2) = W10 at *
  go_wp2_with (first | (refine wpList_load_row rfl 160 _ rfl tb rfl 160 (rwC (m : Int) (.slice Am (Dr m).length cm) true 0) (0, 0) _ HT10.out Tryz.underlying160 rfl (by kernel_rfl) ?_) | (refine wpList_store_row rfl 160 _ _ rfl rb (rwC (m : Int) (.slice Am (Dr m).length cm) true 0) rfl rfl 160 _ HR10.out (by kernel_rfl) rfl (rwC_one _ _ _ _ _ _) ?_))
  refine bodyPost_ret (results_cell_row rfl _ _ rb _ (rwC (m : Int) (.slice Am (Dr m).length cm) true 0) (0, 0) _ rfl (HR10.out.setRow' _) Tryz.underlying160 rfl (by kernel_rfl)) rfl ?_
  have hos : Only (Just rb) W10 (W10.setRow rb (rwC (m : Int) (.slice Am (Dr m).length cm) true 0)) := (Only.refl (Just rb) W10).setRow' (.inl (show Just rb rb from rfl)) _
  unfold RPutP
  rw [HG.out]
  rw [if_pos rfl, if_pos rfl, HM.out, HSS2.out]
  refine ⟨_, rfl, ?_, HDB.out, ⟨_, _, H10.out.offT HR10.out (by decide) (by decide) (HW.out rb HRB.out) hos⟩, HO10.out.setRow' (.inr HRB.out) _⟩
  rw [show ((m : Int)).toNat = m from Int.toNat_natCast m]
  exact HD10.out.only hos fun j hj e => by
    obtain ⟨cs, hb⟩ := HD10.out.1.box hj
    exact (hb.off HR10.out (by decide)) e
end
theorem bslInfo : (Tryz.prog.info? 36).map (fun i => (i.zero, i.size, i.bytes)) = some (some (.slice none 0 0), 1, 24) := by kernel_rfl
theorem built_rc (c : CfgA) (A : Option Addr) (n cp : Nat) (tier : Int) : Tryz.prog.built 154 [(0, .agg (cfgCells c (.slice A n cp))), (1, .int .i64 tier)] = some (rcC c (.slice A n cp) tier (.slice none 0 0) (.pointer none) (.pointer none) (.slice none 0 0)) := by kernel_rfl
def RNewG (K : OKind) (c : CfgA) (k : Nat) (w : World) (e : Ending) (w' : World) : Prop :=
  ∃ (o : RefO K c k) (i : RcI), e = .returned (.pointer (some ⟨i.cb, 0, none⟩)) ∧ Rch o i K.s0 (fun _ => []) w' ∧ (∀ j, RcW o i j → w.heap.size ≤ j) ∧ Only Non w w'
def RcnRel (c : CfgA) (hv : Value) (t1 : Int) (w : World) (cb : Nat) (i : Value) (wr : World) : Prop :=
  ∃ (k : Nat) (v : Value), k ≤ 32 ∧ i = .int .i64 k ∧ Box wr cb 154 (rcC c hv t1 (.slice none 0 0) (.pointer none) (.pointer none) v) ∧ Row 36 wr v (List.replicate k (.slice none 0 0)) ∧ (∀ g, ownB v g → w.heap.size ≤ g) ∧ Only (Just cb) w wr
theorem rcC_setd (c : CfgA) (hv : Value) (t1 : Int) (lv mp pp v u : Value) : (rcC c hv t1 lv mp pp v).setIfInBounds 21 u = rcC c hv t1 lv mp pp u := by
  simp [rcC, cfgCells]
theorem rcC_setm (c : CfgA) (hv : Value) (t1 : Int) (lv mp pp v u : Value) : (rcC c hv t1 lv mp pp v).setIfInBounds 19 u = rcC c hv t1 lv u pp v := by
  simp [rcC, cfgCells]
theorem rcC_setp (c : CfgA) (hv : Value) (t1 : Int) (lv mp pp v u : Value) : (rcC c hv t1 lv mp pp v).setIfInBounds 20 u = rcC c hv t1 lv mp u v := by
  simp [rcC, cfgCells]
section
set_option maxHeartbeats 4000000
set_option maxRecDepth 100000
theorem rch_new {c : CfgA} {k : Nat} (hP : CfgP c) (hk : k < 3) {A : Option Addr} {n cp : Nat} (w : World) (hin : HintsAt w A n cp c.h) :
    Calls Tryz.prog 21 #[.agg (cfgCells c (.slice A n cp)), .int .i64 ((k + 1 : Nat) : Int)] w (RNewG (kOf c k hP hk) c k w) := by
  obtain ⟨t1, ht1⟩ : ∃ t1 : Int, t1 = ((k + 1 : Nat) : Int) := ⟨_, rfl⟩
  rw [← ht1]
  have HT1 := Lib.hid ht1
  have hw : IntKind.i64.wrap (t1 - 1) = k := by rw [ht1, IntKind.wrap_i64]; omega
  have HWR := Lib.hid hw
  have HP := Lib.hid hP
  have HK := Lib.hid hk
  have HB := Lib.hid (Box.fresh w 25 (cfgCells c (.slice A n cp)))
  have HO := Lib.hid ((Only.refl Non w).alloc (.cells (cfgCells c (.slice A n cp)) 25))
  have HIN := Lib.hid (hin.keep HO.out)
  have hl : c.h.length ≤ 100 := by have := hP.hs.2.2; omega
  have HL := Lib.hid hl
  clear hin ht1 hw hl
  go_enter Tryz.func21, Tryz.ntmps21
  go_upto_region 1 with fail
  change Code.wp _ _ _ _ (w.alloc (.cells (cfgCells c (.slice A n cp)) 25))
  generalize w.alloc (.cells (cfgCells c (.slice A n cp)) 25) = W0 at *
  obtain ⟨pb, hpb⟩ : ∃ pb, pb = w.heap.size := ⟨_, rfl⟩
  rw [← hpb] at HB ⊢
  clear hpb
  have HOW := Lib.hid (rown_any W0 HIN.out HL.out)
  go_upto_region 2 with (first | (refine wpList_load_row rfl 25 _ rfl pb rfl 25 (cfgCells c (.slice A n cp)) (0, 0) _ HB.out Tryz.underlying25 rfl (by kernel_rfl) ?_) | (go_at_call 88; refine HOW.out.mono ?_; rintro e W1 ⟨A1, m1, rfl, h1, h2, h3⟩; have HH1 := Lib.hid h1; have HHB := Lib.hid h2; have HO1 := Lib.hid (HO.out.trans h3); have HS1 := Lib.hid h3.size; clear h1 h2 h3) | (refine wpList_store_row rfl 25 _ _ rfl W1.heap.size (cfgCells c (.slice A1 c.h.length m1)) rfl rfl 25 _ (Box.fresh W1 25 (cfgCells z0C (.slice none 0 0))) (by kernel_rfl) rfl (cfgCells_one _ _ _ _) ?_))
  have ho2 : Only Non W1 ((W1.alloc (.cells (cfgCells z0C (.slice none 0 0)) 25)).setRow W1.heap.size (cfgCells c (.slice A1 c.h.length m1))) := ((Only.refl Non W1).alloc _).setRow' (.inr (Nat.le_refl _)) _
  have HQ2 := Lib.hid ((Box.fresh W1 25 (cfgCells z0C (.slice none 0 0))).setRow' (cfgCells c (.slice A1 c.h.length m1)))
  have HH2 := Lib.hid (HH1.out.keep ho2)
  have HO2 := Lib.hid (HO1.out.trans ho2)
  have HLT := Lib.hid (show ∀ j, 0 < c.h.length → ownB (.slice A1 c.h.length m1) j → w.heap.size ≤ j from fun j h0 hj => Nat.le_trans HO.out.size (HHB.out j hj))
  change Code.wp _ _ _ _ ((W1.alloc (.cells (cfgCells z0C (.slice none 0 0)) 25)).setRow W1.heap.size (cfgCells c (.slice A1 c.h.length m1)))
  clear ho2 HH1 HHB HO1 HS1 HOW HB HO HIN
  generalize (W1.alloc (.cells (cfgCells z0C (.slice none 0 0)) 25)).setRow W1.heap.size (cfgCells c (.slice A1 c.h.length m1)) = W2 at *
  generalize W1.heap.size = ob at *
  go_upto_region 3 with (first | (refine wpList_load_row rfl 25 _ rfl ob rfl 25 (cfgCells c (.slice A1 c.h.length m1)) (0, 0) _ HQ2.out Tryz.underlying25 rfl (by kernel_rfl) ?_) | (refine wpList_build' rfl _ _ rfl [(0, .agg (cfgCells c (.slice A1 c.h.length m1))), (1, .int .i64 t1)] _ (by simp [Act.eval]) (built_rc c A1 c.h.length m1 t1) ?_))
  change Code.wp _ _ _ _ (W2.alloc (.cells (rcC c (.slice A1 c.h.length m1) t1 (.slice none 0 0) (.pointer none) (.pointer none) (.slice none 0 0)) 154))
  have ho3 : Only Non W2 (W2.alloc (.cells (rcC c (.slice A1 c.h.length m1) t1 (.slice none 0 0) (.pointer none) (.pointer none) (.slice none 0 0)) 154)) := (Only.refl Non W2).alloc _
  have HB3 := Lib.hid (Box.fresh W2 154 (rcC c (.slice A1 c.h.length m1) t1 (.slice none 0 0) (.pointer none) (.pointer none) (.slice none 0 0)))
  have HQ3 := Lib.hid (ho3.box HQ2.out id)
  have HH3 := Lib.hid (HH2.out.keep ho3)
  have HO3 := Lib.hid (HO2.out.trans ho3)
  have HCB := Lib.hid (show w.heap.size ≤ W2.heap.size from HO2.out.size)
  have HHL := Lib.hid (show ∀ k o, 0 < c.h.length → A1 = some ⟨k, o, none⟩ → k < W2.heap.size from fun k o h0 e => HH2.out.blk h0 e)
  have HNE := Lib.hid (show ob ≠ W2.heap.size from Nat.ne_of_lt HQ2.out.lt)
  have HCW := Lib.hid (show W2.heap.size < (W2.alloc (.cells (rcC c (.slice A1 c.h.length m1) t1 (.slice none 0 0) (.pointer none) (.pointer none) (.slice none 0 0)) 154)).heap.size from HB3.out.lt)
  clear ho3 HQ2 HH2 HO2
  generalize W2.alloc (.cells (rcC c (.slice A1 c.h.length m1) t1 (.slice none 0 0) (.pointer none) (.pointer none) (.slice none 0 0)) 154) = W3 at *
  generalize W2.heap.size = cb at *
  go_wp2
  go_loopw [7] (fun iv wr => RcnRel c (.slice A1 c.h.length m1) t1 W3 cb iv wr) (fun iv _ => 32 - (intOf iv).toNat)
  case atStart => exact ⟨0, _, Nat.zero_le _, rfl, HB3.out, Row.nil_ _ _, fun g hg => (ownB_none hg).elim, Only.refl _ _⟩
  case round =>
    clear HB3
    obtain ⟨m, v, hm, rfl, hb, hr, hf, ho⟩ := hrel
    have HB := Lib.hid hb
    have HO9 := Lib.hid ho
    have HR := Lib.hid hr
    have HF := Lib.hid hf
    have x3 : wr.cell? ⟨cb, 21, none⟩ = some v := hb.cellAt rfl
    have f3 : wr.frozen? ⟨cb, 21, none⟩ = false := hb.free 21
    clear hb hr hf ho
    by_cases hlt : m < 32
    · have hlti : (m : Int) < 32 := by omega
      have HLT2 := Lib.hid hlt
      clear hlt hm
      go_wp2_with (at_builtin; refine wpList_append_row _ rfl (.tmp 22) (.tmp 23) 132 36 rfl bslInfo rfl Tryz.underlying132 v (List.replicate m (.slice none 0 0)) rfl (HR.out.only ((Only.refl Non wr).alloc _) fun _ _ => id) (some ⟨wr.heap.size, 0, none⟩) 1 1 [.slice none 0 0] rfl rfl (one_src wr _ _) (by simp [Value.oneCell']) (by simp [maxLen]; have := HLT2.out; omega) (by simp; have := HLT2.out; omega) ?_; intro v2 w2 hr2 ho2 hn2 _; obtain ⟨A2, c2, e2, _, _⟩ := hr2.shape; rw [show (List.replicate m (Value.slice none 0 0) ++ [Value.slice none 0 0]).length = m + 1 by simp] at e2; subst e2; have HB2 := Lib.hid (ho2.box (((Only.refl Non wr).alloc (.cells #[.slice none 0 0] 36)).box HB.out id) (fun hk => by obtain ⟨cs, h9⟩ := HR.out.box hk; exact (h9.off HB.out (by decide)) rfl)); have HR2 := Lib.hid hr2; have HO2 := Lib.hid ((HO9.out.alloc (.cells #[.slice none 0 0] 36)).trans' ho2 fun g hg => .inr (HF.out g hg)); have HF2 := Lib.hid (show ∀ g, ownB (.slice A2 (m + 1) c2) g → W3.heap.size ≤ g from fun g hg => (hn2 g hg).elim (HF.out g) fun h => by have := HO9.out.size; rw [World.size_alloc] at h; omega); have z3 := HB2.out.cellAt (i := 21) rfl; have zf := HB2.out.free 21; clear hr2 ho2 hn2)
      go_roundw
      case rel =>
        have hos : Only (Just cb) w2 (w2.setCell ⟨cb, 21, none⟩ (.slice A2 (m + 1) c2)) := (Only.refl (Just cb) w2).setCell (p := ⟨cb, 21, none⟩) (.inl (show Just cb cb from rfl)) _
        refine ⟨m + 1, .slice A2 (m + 1) c2, HLT2.out, by push_cast; rfl, ?_, ?_, HF2.out, HO2.out.setCell (p := ⟨cb, 21, none⟩) (.inl (show Just cb cb from rfl)) _⟩
        · have := HB2.out.store 21 (.slice A2 (m + 1) c2)
          rw [rcC_setd] at this
          exact this
        · have h1 := HR2.out.only hos fun g hg e => by
            obtain ⟨cs, h9⟩ := HR2.out.box hg
            exact (h9.off HB2.out (by decide)) e
          rw [List.replicate_succ']
          exact h1
      case measure => simp [intOf]; have := HLT2.out; omega
    · obtain rfl : m = 32 := by omega
      obtain ⟨db, dc, rfl, _, _⟩ := HR.out.cell (i := 0) (u := .slice none 0 0) (by rw [List.getElem?_replicate, if_pos (by omega)])
      rw [List.length_replicate] at x3 HB HR HF
      have HRW := Lib.hid (show Row 36 wr (.slice (some ⟨db, 0, none⟩) 32 dc) (qvL 32 fun _ => .slice none 0 0) by
        have h6 := HR.out
        rw [show List.replicate 32 (Value.slice none 0 0) = qvL 32 (fun _ => .slice none 0 0) by simp [qvL, List.map_const']] at h6
        exact h6)
      have HDB := Lib.hid (show W3.heap.size ≤ db from HF.out db (ownB_slice.2 rfl))
      have HQ := Lib.hid (HO9.out.box HQ3.out HNE.out)
      clear hlt hm x3 f3 HR HF
      have HCB2 := Lib.hid HCW.out
      have HCL := Lib.hid (show cb < wr.heap.size ∧ db < wr.heap.size ∧ cb < db from ⟨HB.out.lt, HRW.out.lt (ownB_slice.2 rfl), Nat.lt_of_lt_of_le HCB2.out HDB.out⟩)
      have HSZ := Lib.hid (show w.heap.size ≤ wr.heap.size from Nat.le_trans HO3.out.size HO9.out.size)
      have HOW := Lib.hid (show Only Non w wr from HO3.out.trans' HO9.out fun j hj => .inr (by rw [show j = cb from hj]; exact HCB.out))
      have HHR := Lib.hid (show HintsAt wr A1 c.h.length m1 c.h from HH3.out.off HO9.out fun h0 k o e hk => by have h1 := HHL.out k o h0 e; have h2 : k = cb := hk; omega)
      clear HDB HO9 HQ3 HH3 HO3
      have x5 : wr.cell? ⟨ob, 5, none⟩ = some (.int .i64 (c.f 5)) := HQ.out.cellAt (cfgCells_at c _ (by decide))
      by_cases hp : c.f 5 = 2
      · have HPP := Lib.hid hp
        have HN := Lib.hid (show Calls Tryz.prog 89 #[.slice A1 c.h.length m1, .agg #[.int .i64 (c.f 9), .int .i64 (c.f 10), .int .i64 (c.f 11)], .int .i64 t1] wr (RpNewPost A1 m1 c.h (capQ c) k wr) by
          rw [HT1.out]
          exact rpt_new (q := capQ c) wr HHR.out HP.out.hs (fun t ht => by have := HP.out.pc t ht; unfold capQ; omega) HK.out)
        rw [hp] at x5
        have c9 : wr.cell? ⟨ob, 9, none⟩ = some (.int .i64 (c.f 9)) := HQ.out.cellAt (cfgCells_at c _ (by decide))
        have c10 : wr.cell? ⟨ob, 10, none⟩ = some (.int .i64 (c.f 10)) := HQ.out.cellAt (cfgCells_at c _ (by decide))
        have c11 : wr.cell? ⟨ob, 11, none⟩ = some (.int .i64 (c.f 11)) := HQ.out.cellAt (cfgCells_at c _ (by decide))
        have c16 : wr.cell? ⟨ob, 16, none⟩ = some (.slice A1 c.h.length m1) := HQ.out.cellAt rfl
        clear hp
        go_upto_region 11 with (go_at_call 89; refine HN.out.mono ?_; rintro e W4 ⟨j, rfl, h1, h2, h3, h4, h5, h6, h7, h8⟩; have HJ1 := Lib.hid h1; have HJ2 := Lib.hid (show j.A = A1 ∧ j.t = k ∧ j.B = W4.heap.size ∧ wr.heap.size ≤ j.pb ∧ wr.heap.size ≤ j.ob ∧ ∀ k, ownB j.lv k → wr.heap.size ≤ k from ⟨h2, h3, h4, h5, h6, h7⟩); have HO4 := Lib.hid h8; have HB4 := Lib.hid (h8.box HB.out id); have z20 := HB4.out.cellAt (i := 20) rfl; have f20 := HB4.out.free 20; clear h1 h2 h3 h4 h5 h6 h7 h8)
        go_wp2
        go_ret
        obtain ⟨j1, j2, j3, j4, j5, j6⟩ := HJ2.out
        have hcl := HCL.out
        have hsz := HSZ.out
        have hos : Only (Just cb) W4 (W4.setCell ⟨cb, 20, none⟩ (.pointer (some ⟨j.pb, 0, none⟩))) := (Only.refl (Just cb) W4).setCell (p := ⟨cb, 20, none⟩) (.inl (show Just cb cb from rfl)) _
        have hF : ∀ x, RpF j c.h.length x → x ≠ cb ∧ x ≠ db ∧ w.heap.size ≤ x := fun x hx => by
          rcases hx with rfl | hx | rfl | ⟨h0, o, e⟩
          · omega
          · have := j6 x hx; omega
          · omega
          · rw [j1] at e
            have h1 := HHL.out x o h0 e
            have h2 := HLT.out x h0 (by rw [e]; exact ownB_slice.2 rfl)
            omega
        have e : kOf c k HP.out HK.out = partKc c k := by unfold kOf; rw [if_pos HPP.out]
        rw [e]
        have hs4 := HO4.out.size
        refine ⟨roPrt HK.out HP.out HPP.out j j2, ⟨cb, db, dc, .slice A1 c.h.length m1⟩, rfl, ⟨.slice none 0 0, fun _ => .slice none 0 0, ?_, ?_, ?_, fun b hb => ⟨RByt.nil _, fun g hg => (ownB_none hg).elim⟩, ⟨?_, fun e => (hF _ e).1 rfl⟩, ⟨?_, fun e => (hF _ e).2.1 rfl⟩, ?_, HP.out⟩, ?_, ?_⟩
        · exact RefO.offT (roPrt HK.out HP.out HPP.out j j2) (s := fun _ => []) ⟨rfl, HJ1.out⟩ HB4.out (by decide) (fun e => (hF _ e).1 rfl) hos
        · have := HB4.out.store 20 (.pointer (some ⟨j.pb, 0, none⟩))
          rw [rcC_setp, HT1.out] at this
          exact this
        · exact (HRW.out.only HO4.out fun _ _ => id).only hos fun g hg e => by have h1 := ownB_slice.1 hg; have h2 : g = cb := e; omega
        · show cb < j.B; omega
        · show db < j.B; omega
        · show cb ≠ db; omega
        · intro x hx
          have hcb := HCB.out
          rcases hx with hx | hx | hx
          · exact (hF x hx).2.2
          · rw [show x = cb from hx]; exact hcb
          · rw [show x = db from hx]; omega
        · exact (HOW.out.trans HO4.out).setCell (p := ⟨cb, 20, none⟩) (.inr HCB.out) _
      · have HPP := Lib.hid hp
        have c6 : wr.cell? ⟨ob, 6 + k, none⟩ = some (.int .i64 (c.f (6 + k))) := HQ.out.cellAt (cfgCells_at c _ (by have := HK.out; omega))
        have hw := HWR.out
        have hk3 : (k : Int) < 3 := by have := HK.out; omega
        have hp5 : (c.f 5 == 2) = false := by simpa using hp
        generalize hf5 : c.f 5 = f5 at *
        have HF5 := Lib.hid hf5
        clear hp hf5
        by_cases hq : c.f (6 + k) = 2
        · have HPK := Lib.hid (mqPc_ok HP.out HK.out)
          have e9 : c.f (9 + k) = ((mqPc c k).cap : Int) := by have := HP.out.pc k HK.out; simp only [mqPc]; omega
          have e12 : c.f 12 = ((mqPc c k).q : Int) := by have := HP.out.p12; simp only [mqPc]; omega
          have e13 : c.f 13 = ((mqPc c k).life : Int) := by have := HP.out.p13; simp only [mqPc]; omega
          have e14 : c.f 14 = ((mqPc c k).ghost : Int) := by have := HP.out.p14; simp only [mqPc]; omega
          have c9 : wr.cell? ⟨ob, 9 + k, none⟩ = some (.int .i64 (c.f (9 + k))) := HQ.out.cellAt (cfgCells_at c _ (by have := HK.out; omega))
          have c12 : wr.cell? ⟨ob, 12, none⟩ = some (.int .i64 (c.f 12)) := HQ.out.cellAt (cfgCells_at c _ (by decide))
          have c13 : wr.cell? ⟨ob, 13, none⟩ = some (.int .i64 (c.f 13)) := HQ.out.cellAt (cfgCells_at c _ (by decide))
          have c14 : wr.cell? ⟨ob, 14, none⟩ = some (.int .i64 (c.f 14)) := HQ.out.cellAt (cfgCells_at c _ (by decide))
          have HN := Lib.hid (show Calls Tryz.prog 90 #[.int .i64 (c.f (9 + k)), .int .i64 (c.f 12), .int .i64 (c.f 13), .int .i64 (c.f 14)] wr.drew (RmqNewPost (mqPc c k) wr.drew) by
            rw [e9, e12, e13, e14]
            exact rmq_new (mqPc c k) (by have := HP.out.p12; simp only [mqPc]; omega) (by have := HP.out.p12; simp only [mqPc]; omega) wr.drew)
          have HQQ := Lib.hid hq
          rw [hq] at c6
          clear e9 e12 e13 e14 hq
          generalize c.f (9 + k) = f9 at *
          generalize c.f 12 = f12 at *
          generalize c.f 13 = f13 at *
          generalize c.f 14 = f14 at *
          have k1 : wr.drew.cell? ⟨ob, 9 + k, none⟩ = some (.int .i64 f9) := c9
          have k2 : wr.drew.cell? ⟨ob, 12, none⟩ = some (.int .i64 f12) := c12
          have k3 : wr.drew.cell? ⟨ob, 13, none⟩ = some (.int .i64 f13) := c13
          have k4 : wr.drew.cell? ⟨ob, 14, none⟩ = some (.int .i64 f14) := c14
          go_upto_region 10 with fail
          refine wp_region_tail (S := (fun w' : World => w'.cell? ⟨ob, 9 + k, none⟩ = some (.int .i64 f9) ∧ w'.cell? ⟨ob, 12, none⟩ = some (.int .i64 f12) ∧ w'.cell? ⟨ob, 13, none⟩ = some (.int .i64 f13) ∧ w'.cell? ⟨ob, 14, none⟩ = some (.int .i64 f14))) 13 (by kernel_rfl) (by kernel_rfl) ?_ ?_
          · exact ⟨by assumption, by assumption, by assumption, by assumption⟩
          intro hSS
          refine wpHd_take (i := 0) (v := ?_) (by kernel_rfl) rfl (by kernel_rfl) (fun _ _ _ h => h) (.inl ⟨by rfl, ?_⟩) hSS ?_
          rotate_left
          · intro w hSw; (try dsimp only at hSw); go_simp; (try with_reducible rfl)
          refine wpHd_take (i := 1) (v := ?_) (by kernel_rfl) rfl (by kernel_rfl) (fun _ _ _ h => h) (.inl ⟨by rfl, ?_⟩) hSS ?_
          rotate_left
          · intro w hSw; (try dsimp only at hSw); go_simp; (try with_reducible rfl)
          refine wpHd_take (i := 2) (v := ?_) (by kernel_rfl) rfl (by kernel_rfl) (fun _ _ _ h => h) (.inl ⟨by rfl, ?_⟩) hSS ?_
          rotate_left
          · intro w hSw; (try dsimp only at hSw); go_simp; (try with_reducible rfl)
          refine wpHd_take (i := 3) (v := ?_) (by kernel_rfl) rfl (by kernel_rfl) (fun _ _ _ h => h) (.inl ⟨by rfl, ?_⟩) hSS ?_
          rotate_left
          · intro w hSw; (try dsimp only at hSw); go_simp; (try with_reducible rfl)
          refine wpHd_take (i := 4) (v := ?_) (by kernel_rfl) rfl (by kernel_rfl) (fun _ _ _ h => h) (.inl ⟨by rfl, ?_⟩) hSS ?_
          rotate_left
          · intro w hSw; (try dsimp only at hSw); go_simp; (try with_reducible rfl)
          try simp only [Act.put, List.getElem_toArray, List.getElem_cons_succ, List.getElem_cons_zero, List.setIfInBounds_toArray, List.set_cons_zero, List.set_cons_succ]
          refine wpHd_take (i := 5) (v := ?_) (by kernel_rfl) rfl (by kernel_rfl) (fun _ _ _ h => h) (.inl ⟨by rfl, ?_⟩) hSS ?_
          rotate_left
          · intro w hSw; (try dsimp only at hSw); go_simp; (try with_reducible rfl)
          refine wpHd_take (i := 6) (v := ?_) (by kernel_rfl) rfl (by kernel_rfl) (fun _ _ _ h => h) (.inl ⟨by rfl, ?_⟩) hSS ?_
          rotate_left
          · intro w hSw; (try dsimp only at hSw); go_simp; (try with_reducible rfl)
          refine wpHd_take (i := 7) (v := ?_) (by kernel_rfl) rfl (by kernel_rfl) (fun _ _ _ h => h) (.inl ⟨by rfl, ?_⟩) hSS ?_
          rotate_left
          · intro w hSw; (try dsimp only at hSw); go_simp; (try with_reducible rfl)
          refine wpHd_take (i := 8) (v := ?_) (by kernel_rfl) rfl (by kernel_rfl) (fun _ _ _ h => h) (.inl ⟨by rfl, ?_⟩) hSS ?_
          rotate_left
          · intro w hSw; (try dsimp only at hSw); go_simp; (try with_reducible rfl)
          refine wpHd_take (i := 9) (v := ?_) (by kernel_rfl) rfl (by kernel_rfl) (fun _ _ _ h => h) (.inl ⟨by rfl, ?_⟩) hSS ?_
          rotate_left
          · intro w hSw; (try dsimp only at hSw); go_simp; (try with_reducible rfl)
          try simp only [Act.put, List.getElem_toArray, List.getElem_cons_succ, List.getElem_cons_zero, List.setIfInBounds_toArray, List.set_cons_zero, List.set_cons_succ]
          refine wpHd_take (i := 10) (v := ?_) (by kernel_rfl) rfl (by kernel_rfl) (fun _ _ _ h => h) (.inl ⟨by rfl, ?_⟩) hSS ?_
          rotate_left
          · intro w hSw; (try dsimp only at hSw); go_simp; (try with_reducible rfl)
          refine wpHd_take (i := 11) (v := ?_) (by kernel_rfl) rfl (by kernel_rfl) (fun _ _ _ h => h) (.inl ⟨by rfl, ?_⟩) hSS ?_
          rotate_left
          · intro w hSw; (try dsimp only at hSw); go_simp; (try with_reducible rfl)
          try simp only [Act.put, List.getElem_toArray, List.getElem_cons_succ, List.getElem_cons_zero, List.setIfInBounds_toArray, List.set_cons_zero, List.set_cons_succ]
          refine wpHd_one (i := 12) rfl (by kernel_rfl) (fun K hK => ?_)
          go_simp
          refine HN.out.mono ?_
          rintro e W4 ⟨j, rfl, h1, h2, h3⟩
          have HJ1 := Lib.hid h1
          have HJ2 := Lib.hid (show wr.heap.size ≤ wr.heap.size ∧ ∀ x, RF j x → wr.heap.size ≤ x from ⟨Nat.le_refl _, h2⟩)
          have HO4 := Lib.hid (((Only.refl Non wr).drew).trans h3)
          have HB4 := Lib.hid (HO4.out.box HB.out id)
          have z19 := HB4.out.cellAt (i := 19) rfl
          have f19 := HB4.out.free 19
          have k1 := h3.cell hSS.1 id
          have k2 := h3.cell hSS.2.1 id
          have k3 := h3.cell hSS.2.2.1 id
          have k4 := h3.cell hSS.2.2.2 id
          clear h1 h2 h3
          refine hK.out _ _ ?_ (fun hSS => ?_)
          · exact ⟨by assumption, by assumption, by assumption, by assumption⟩
          clear hK
          try simp only [Act.put, List.getElem_toArray, List.getElem_cons_succ, List.getElem_cons_zero, List.setIfInBounds_toArray, List.set_cons_zero, List.set_cons_succ]
          refine wpHd_end (by kernel_rfl) ?_
          clear hSS k1 k2 k3 k4 c6 c9 c12 c13 c14 x5 hw hk3 hp5
          go_wp2
          go_ret
          obtain ⟨j4, j5⟩ := HJ2.out
          have hcl := HCL.out
          have hsz := HSZ.out
          have hos : Only (Just cb) W4 (W4.setCell ⟨cb, 19, none⟩ (.pointer (some ⟨j.mb, 0, none⟩))) := (Only.refl (Just cb) W4).setCell (p := ⟨cb, 19, none⟩) (.inl (show Just cb cb from rfl)) _
          have hF : ∀ x, RF j x → x ≠ cb ∧ x ≠ db ∧ w.heap.size ≤ x := fun x hx => by
            have := j5 x hx
            omega
          have hB : cb < j.B ∧ db < j.B := by
            obtain ⟨gv, qv, hA⟩ := HJ1.out
            have h1 := hA.lt.1
            have h2 := j5 j.mb (.inl rfl)
            omega
          have e : kOf c k HP.out HK.out = mqK (mqPc c k) (mqPc_ok HP.out HK.out) := by unfold kOf; rw [if_neg (by rw [HF5.out]; exact HPP.out), if_pos HQQ.out]
          rw [e]
          have hs4 := HO4.out.size
          refine ⟨roMq HK.out HP.out (by rw [HF5.out]; exact HPP.out) j, ⟨cb, db, dc, .slice A1 c.h.length m1⟩, rfl, ⟨.slice none 0 0, fun _ => .slice none 0 0, ?_, ?_, ?_, fun b hb => ⟨RByt.nil _, fun g hg => (ownB_none hg).elim⟩, ⟨hB.1, fun e => (hF _ e).1 rfl⟩, ⟨hB.2, fun e => (hF _ e).2.1 rfl⟩, ?_, HP.out⟩, ?_, ?_⟩
          · exact RefO.offT (roMq HK.out HP.out (by rw [HF5.out]; exact HPP.out) j) (s := ⟨fun _ => [], 0, fun _ => 0, fun _ => 0⟩) ⟨rfl, HJ1.out⟩ HB4.out (by decide) (fun e => (hF _ e).1 rfl) hos
          · have := HB4.out.store 19 (.pointer (some ⟨j.mb, 0, none⟩))
            rw [rcC_setm, HT1.out] at this
            exact this
          · exact (HRW.out.only HO4.out fun _ _ => id).only hos fun g hg e => by have h1 := ownB_slice.1 hg; have h2 : g = cb := e; omega
          · show cb ≠ db; omega
          · intro x hx
            have hcb := HCB.out
            rcases hx with hx | hx | hx
            · exact (hF x hx).2.2
            · rw [show x = cb from hx]; exact hcb
            · rw [show x = db from hx]; omega
          · exact (HOW.out.trans HO4.out).setCell (p := ⟨cb, 19, none⟩) (.inr HCB.out) _
        · have HQQ := Lib.hid hq
          have hq6 : (c.f (6 + k) == 2) = false := by simpa using hq
          clear hq
          generalize hf6 : c.f (6 + k) = f6 at *
          have HF6 := Lib.hid hf6
          clear hf6
          go_wp2
          go_ret
          have hcl := HCL.out
          have hsz := HSZ.out
          have e : kOf c k HP.out HK.out = lruK (c.f (9 + k)).toNat := by unfold kOf; rw [if_neg (by rw [HF5.out]; exact HPP.out), if_neg (by rw [HF6.out]; exact HQQ.out)]
          rw [e]
          refine ⟨roLru HK.out HP.out (by rw [HF5.out]; exact HPP.out) wr.heap.size, ⟨cb, db, dc, .slice A1 c.h.length m1⟩, rfl, ⟨.slice none 0 0, fun _ => .slice none 0 0, ⟨OwnInts.nil _ _ _, Nat.le_refl _⟩, ?_, HRW.out, fun b hb => ⟨RByt.nil _, fun g hg => (ownB_none hg).elim⟩, ⟨hcl.1, id⟩, ⟨hcl.2.1, id⟩, ?_, HP.out⟩, ?_, HOW.out⟩
          · have := HB.out
            rw [HT1.out] at this
            exact this
          · show cb ≠ db; omega
          · intro x hx
            have hcb := HCB.out
            rcases hx with hx | hx | hx
            · exact hx.elim
            · rw [show x = cb from hx]; exact hcb
            · rw [show x = db from hx]; omega
end
def PrW (K : OKind) (i : K.ι) (cb mb : Nat) : Nat → Prop := fun j => K.F i j ∨ j = cb ∨ j = mb
structure Cj {K : OKind} {c : CfgA} {k : Nat} (i : K.ι) (cb mb : Nat) (hv : Value) (o : RefO K c k) (r : RcI) (s s2 : K.σ) (D : Int → Option Blk) (Dr : Nat → List Int) (w : World) : Prop where
  ch : CchB K i w cb mb c hv (k + 1) s D
  rc : Rch o r s2 Dr w
  sep : ∀ j, RcW o r j → ¬ cchBlk K i cb mb c hv D j
  lo : ∀ j, PrW K i cb mb j → j < o.B
structure Ck {K : OKind} (c : CfgA) (s : K.σ) (D : Int → Option Blk) (Dr : Nat → List Int) : Prop where
  eq : ∀ b l v, D b = some (l, v) → Dr b.toNat = l
  rg : ∀ b, b ∈ K.sp.all s → 0 ≤ b ∧ b < c.f 2
section
variable {K : OKind} {c : CfgA} {k : Nat} {i : K.ι} {cb mb : Nat} {hv : Value} {o : RefO K c k} {r : RcI} {s s2 s' : K.σ} {D D' : Int → Option Blk} {Dr Dr' : Nat → List Int} {w w' : World} {S : Nat → Prop}
theorem Cj.keep (h : Cj i cb mb hv o r s s2 D Dr w) (ho : Only Non w w') : Cj i cb mb hv o r s s2 D Dr w' := ⟨h.ch.keep ho, h.rc.keep ho, h.sep, h.lo⟩
theorem Cj.prog (h : Cj i cb mb hv o r s s2 D Dr w) (hc : CchB K i w' cb mb c hv (k + 1) s' D') (ho : Only (PrW K i cb mb) w w') (hD : ∀ b l v, D' b = some (l, v) → D b = some (l, v) ∨ ∀ j, ownB v j → w.heap.size ≤ j) : Cj i cb mb hv o r s' s2 D' Dr w' where
  ch := hc
  rc := h.rc.offX ho (fun j hj e => h.sep j hj (by
    rcases e with e | e | e
    · exact .inl e
    · exact .inr (.inl e)
    · exact .inr (.inr (.inl e)))) fun j cs e hB => absurd (h.lo j e) (by omega)
  sep := fun j hj e => by
    rcases e with e | e | e | ⟨b, l, v, hb, e⟩ | e
    · exact h.sep j hj (.inl e)
    · exact h.sep j hj (.inr (.inl e))
    · exact h.sep j hj (.inr (.inr (.inl e)))
    · rcases hD b l v hb with h1 | h1
      · exact h.sep j hj (.inr (.inr (.inr (.inl ⟨b, l, v, h1, e⟩))))
      · have := h1 j e; have := h.rc.ltW hj; have := h.rc.bs; omega
    · exact h.sep j hj (.inr (.inr (.inr (.inr e))))
  lo := h.lo
theorem Cj.ref (h : Cj i cb mb hv o r s s2 D Dr w) (hr : Rch o r s' Dr' w') (ho : Only (RcW o r) w w') : Cj i cb mb hv o r s s' D Dr' w' where
  ch := h.ch.far' ho fun j hj e => h.sep j e hj
  rc := hr
  sep := h.sep
  lo := h.lo
theorem Cj.inv (h : Cj i cb mb hv o r s s2 D Dr w) : o.Inv s := o.inv h.ch.ord
theorem Cj.notW (h : Cj i cb mb hv o r s s2 D Dr w) {g : Nat} (hg : w.heap.size ≤ g) : ¬ PrW K i cb mb g ∧ ¬ RcW o r g := by
  refine ⟨fun e => ?_, fun e => ?_⟩
  · have := h.lo g e; have := h.rc.bs; omega
  · have := h.rc.ltW e; have := h.rc.bs; omega
def CjW (i : K.ι) (cb mb : Nat) (o : RefO K c k) (r : RcI) : Nat → Prop := fun j => PrW K i cb mb j ∨ RcW o r j
theorem PrW.of2 {j : Nat} (h : CF2 (K.F i) mb j) : PrW K i cb mb j := h.elim .inl fun h => .inr (.inr h)
end
def DoP {K : OKind} {c : CfgA} {k : Nat} (i : K.ι) (cb mb : Nat) (hv : Value) (o : RefO K c k) (r : RcI) (s : K.σ) (w : World) (e : Ending) (w' : World) : Prop :=
  ∃ (s' : K.σ) (D' : Int → Option Blk) (Dr' : Nat → List Int), e = .returned (.bool true) ∧ Cj i cb mb hv o r s' s' D' Dr' w' ∧ Ck (K := K) c s' D' Dr' ∧ K.sp.age s' ≤ K.sp.age s + 1 ∧ Only (CjW i cb mb o r) w w'
section
set_option maxHeartbeats 4000000
set_option maxRecDepth 100000
variable {K : OKind} {c : CfgA} {k : Nat} {i : K.ι} {cb mb : Nat} {hv dv : Value} {o : RefO K c k} {r : RcI} {s : K.σ} {D : Int → Option Blk} {Dr : Nat → List Int} {w : World} {a : ActC}
theorem do_other (h : Cj i cb mb hv o r s s D Dr w) (he : Ck (K := K) c s D Dr) (hk : a.kind ≠ 0 ∧ a.kind ≠ 1 ∧ a.kind ≠ 2 ∧ a.kind ≠ 3) :
    Calls Tryz.prog 23 #[.pointer (some ⟨cb, 0, none⟩), .pointer (some ⟨r.cb, 0, none⟩), .agg (actC a dv)] w (DoP i cb mb hv o r s w) := by
  have HA := Lib.hid (Box.fresh w 40 (actC a dv))
  have HO := Lib.hid ((Only.refl Non w).alloc (.cells (actC a dv) 40))
  have H := Lib.hid (h.keep HO.out)
  have HE := Lib.hid he
  have b0 : (a.kind == 0) = false := beq_eq_false_iff_ne.2 hk.1
  have b1 : (a.kind == 1) = false := beq_eq_false_iff_ne.2 hk.2.1
  have b2 : (a.kind == 2) = false := beq_eq_false_iff_ne.2 hk.2.2.1
  have b3 : (a.kind == 3) = false := beq_eq_false_iff_ne.2 hk.2.2.2
  clear h he hk
  go_enter Tryz.func23, Tryz.ntmps23
  go_upto_region 1 with fail
  change Code.wp _ _ _ _ (w.alloc (.cells (actC a dv) 40))
  generalize w.alloc (.cells (actC a dv) 40) = W at *
  generalize w.heap.size = ab at *
  have x0 : W.cell? ⟨ab, 0, none⟩ = some (.int .i64 a.kind) := HA.out.cellAt rfl
  generalize a.kind = kd at *
  go_wp2
  go_ret
  exact ⟨s, D, Dr, rfl, H.out, HE.out, Nat.le_succ _, HO.out.mono fun _ h => h.elim⟩
theorem do_use_no (h : Cj i cb mb hv o r s s D Dr w) (he : Ck (K := K) c s D Dr) (hk : a.kind = 0) (hb : D a.b = none) :
    Calls Tryz.prog 23 #[.pointer (some ⟨cb, 0, none⟩), .pointer (some ⟨r.cb, 0, none⟩), .agg (actC a dv)] w (DoP i cb mb hv o r s w) := by
  have HA := Lib.hid (Box.fresh w 40 (actC a dv))
  have HO := Lib.hid ((Only.refl Non w).alloc (.cells (actC a dv) 40))
  have H := Lib.hid (h.keep HO.out)
  have HE := Lib.hid he
  have HCU := Lib.hid fun (W : World) (hC : Cj i cb mb hv o r s s D Dr W) => cch_use_no (b := a.b) hC.ch hb
  have HRU := Lib.hid fun (W : World) (hC : Cj i cb mb hv o r s s D Dr W) => rch_use_no (b := a.b) hC.rc hC.inv (hC.ch.out_ hb)
  have HK := Lib.hid hk
  clear h he hk hb
  go_enter Tryz.func23, Tryz.ntmps23
  go_upto_region 1 with fail
  change Code.wp _ _ _ _ (w.alloc (.cells (actC a dv) 40))
  generalize w.alloc (.cells (actC a dv) 40) = W at *
  generalize w.heap.size = ab at *
  have x0 : W.cell? ⟨ab, 0, none⟩ = some (.int .i64 0) := by rw [← HK.out]; exact HA.out.cellAt rfl
  have x2 : W.cell? ⟨ab, 2, none⟩ = some (.int .i64 a.b) := HA.out.cellAt rfl
  go_upto_region 4 with (go_at_call 91; refine (HCU.out W H.out).mono ?_; rintro e W1 ⟨rfl, ho1⟩)
  have HO1 := Lib.hid ho1
  have H1 := Lib.hid (H.out.keep ho1)
  have x2 : W1.cell? ⟨ab, 2, none⟩ = some (.int .i64 a.b) := ho1.cell x2 id
  clear ho1 x0
  go_upto_region 5 with (go_at_call 92; refine (HRU.out W1 H1.out).mono ?_; rintro e W2 ⟨rfl, ho2⟩)
  have HO2 := Lib.hid ho2
  have HS := Lib.hid (same_any (.slice none 0 0) (.slice none 0 0) [] [] W2 (RByt.nil W2).byt (RByt.nil W2).byt)
  clear ho2 x2
  go_wp2_with (go_at_call 58; refine HS.out.mono ?_; rintro e W3 ⟨rfl, m, rfl⟩)
  go_ret
  exact ⟨s, D, Dr, rfl, (H1.out.keep HO2.out).keep ((Only.refl Non _).drewN _), HE.out, Nat.le_succ _, ((((HO.out.trans HO1.out).trans HO2.out).drewN _).mono fun _ h => h.elim)⟩
theorem do_use_in {l : List Int} {dv0 : Value} (h : Cj i cb mb hv o r s s D Dr w) (he : Ck (K := K) c s D Dr) (hk : a.kind = 0) (hb : D a.b = some (l, dv0)) (hage : K.sp.age s < maxAge) :
    Calls Tryz.prog 23 #[.pointer (some ⟨cb, 0, none⟩), .pointer (some ⟨r.cb, 0, none⟩), .agg (actC a dv)] w (DoP i cb mb hv o r s w) := by
  have hmem := h.ch.in_ hb
  have hrg := he.rg _ hmem
  have hp2 := h.ch.right.p2
  have hp3 := h.ch.right.p3
  obtain ⟨n, hn⟩ := Int.eq_ofNat_of_zero_le hrg.1
  have hn32 : n < 32 := by omega
  have HA := Lib.hid (Box.fresh w 40 (actC a dv))
  have HO := Lib.hid ((Only.refl Non w).alloc (.cells (actC a dv) 40))
  have H := Lib.hid (h.keep HO.out)
  have HE := Lib.hid he
  rw [hn] at hb hmem
  have hl : Dr n = l := by have := he.eq _ _ _ hb; rwa [Int.toNat_natCast] at this
  have HL := Lib.hid hl
  have HLL := Lib.hid (show l.length ≤ 1000000 from by have := (h.ch.dat _ _ _ hb).len; omega)
  have HCU := Lib.hid fun (W : World) (hC : Cj i cb mb hv o r s s D Dr W) => cch_use_in (b := (n : Int)) hC.ch hb hage
  have HRU := Lib.hid fun (W : World) (s' : K.σ) (D' : Int → Option Blk) (hC : Cj i cb mb hv o r s' s D' Dr W) (hI : o.Inv s) => rch_use_in (n := n) hC.rc hI hmem hn32 hage
  have HK := Lib.hid (show a.kind = 0 ∧ a.b = n from ⟨hk, hn⟩)
  have HI := Lib.hid h.inv
  have HU := Lib.hid ((K.oc i).useL h.ch.ord hmem)
  have HNC := Lib.hid (show ¬ PrW K i cb mb w.heap.size ∧ ¬ RcW o r w.heap.size from h.notW (Nat.le_refl _))
  clear h he hk hb hage hn hrg hp2 hp3 hn32 hl hmem
  go_enter Tryz.func23, Tryz.ntmps23
  go_upto_region 1 with fail
  change Code.wp _ _ _ _ (w.alloc (.cells (actC a dv) 40))
  generalize w.alloc (.cells (actC a dv) 40) = W at *
  generalize w.heap.size = ab at *
  have x0 : W.cell? ⟨ab, 0, none⟩ = some (.int .i64 0) := by rw [← HK.out.1]; exact HA.out.cellAt rfl
  have x2 : W.cell? ⟨ab, 2, none⟩ = some (.int .i64 n) := by rw [← HK.out.2]; exact HA.out.cellAt rfl
  go_upto_region 4 with (go_at_call 91; refine (HCU.out W H.out).mono ?_; rintro e W1 ⟨v1, rfl, h1, h2, h3, h4⟩)
  have ho1 : Only (PrW K i cb mb) W W1 := h4.mono fun j hj => .inl (.inl hj)
  have HO1 := Lib.hid ho1
  have H1 := Lib.hid (H.out.prog h3 ho1 fun b l v hb => .inl hb)
  obtain ⟨A1, c1, e1, _⟩ := h1.shape
  rw [byt_len] at e1
  have HV1 := Lib.hid (show RByt W1 v1 l from ⟨h1, HLL.out⟩)
  have HB1 := Lib.hid h2
  have x2 : W1.cell? ⟨ab, 2, none⟩ = some (.int .i64 n) := ho1.cell x2 HNC.out.1
  subst e1
  clear ho1 x0 h1 h2 h3 h4
  go_upto_region 5 with (go_at_call 92; refine (HRU.out W1 _ _ H1.out HI.out).mono ?_; rintro e W2 ⟨v2, rfl, h1, h2, h3, h4⟩)
  have H2 := Lib.hid (H1.out.ref h3 h4)
  have HO2 := Lib.hid h4
  have HVV := Lib.hid (HV1.out.only h4 fun j hj e => by have := HB1.out j hj; have := H.out.rc.ltW e; have := H.out.rc.bs; omega)
  have HS := same_any (.slice A1 l.length c1) v2 l (Dr n) W2 HVV.out.byt h1.byt
  rw [decide_eq_true HL.out.symm] at HS
  have HS := Lib.hid HS
  obtain ⟨A2, c2, e2⟩ := h1.shape
  subst e2
  clear h1 h2 h3 h4 x2
  go_wp2_with (go_at_call 58; refine HS.out.mono ?_; rintro e W3 ⟨rfl, m, rfl⟩)
  go_ret
  refine ⟨K.sp.use s n, D, Dr, rfl, H2.out.keep ((Only.refl Non _).drewN _), ⟨HE.out.eq, fun b hb => HE.out.rg b ((HU.out b).1 hb)⟩, (K.oc i).ageU s n, ?_⟩
  exact ((((HO.out.mono (S' := CjW i cb mb o r) fun _ h => h.elim).trans' HO1.out fun j hj => .inl (.inl hj)).trans' HO2.out fun j hj => .inl (.inr hj)).drewN _)
end
section
set_option maxHeartbeats 4000000
set_option maxRecDepth 100000
variable {K : OKind} {c : CfgA} {k : Nat} {i : K.ι} {cb mb : Nat} {hv dv : Value} {o : RefO K c k} {r : RcI} {s : K.σ} {D : Int → Option Blk} {Dr : Nat → List Int} {w : World} {a : ActC}
theorem do_set {t : Bool} {Dr' : Nat → List Int} {Q : (Int → Option Blk) → Prop} (h : Cj i cb mb hv o r s s D Dr w) (hk : a.kind = 2) (hby : Byt w dv a.data) (hdv : 0 < a.data.length → ∀ j, ownB dv j → ¬ CjW i cb mb o r j)
    (HP : ∀ W, Cj i cb mb hv o r s s D Dr W → Byt W dv a.data → Calls Tryz.prog 94 #[.pointer (some ⟨cb, 0, none⟩), .agg #[.int .i64 a.b, dv]] W fun e w' => e = .returned (.bool t) ∧ ∃ D', Q D' ∧ Cj i cb mb hv o r s s D' Dr w' ∧ Only (PrW K i cb mb) W w')
    (HR : ∀ W D', Cj i cb mb hv o r s s D' Dr W → Byt W dv a.data → Calls Tryz.prog 95 #[.pointer (some ⟨r.cb, 0, none⟩), .agg #[.int .i64 a.b, dv]] W fun e w' => e = .returned (.bool t) ∧ Rch o r s Dr' w' ∧ Only (RcW o r) W w')
    (HQ : ∀ D', Q D' → Ck (K := K) c s D' Dr') :
    Calls Tryz.prog 23 #[.pointer (some ⟨cb, 0, none⟩), .pointer (some ⟨r.cb, 0, none⟩), .agg (actC a dv)] w (DoP i cb mb hv o r s w) := by
  have HDV := Lib.hid hdv
  have HQQ := Lib.hid HQ
  have HBY := Lib.hid hby
  obtain ⟨A, cp, rfl, _, _, _⟩ := hby
  have HPP := Lib.hid HP
  have HRR := Lib.hid HR
  have HA := Lib.hid (Box.fresh w 40 (actC a (.slice A a.data.length cp)))
  have HO := Lib.hid ((Only.refl Non w).alloc (.cells (actC a (.slice A a.data.length cp)) 40))
  have H := Lib.hid (h.keep HO.out)
  have HK := Lib.hid hk
  have HNC := Lib.hid (show ¬ PrW K i cb mb w.heap.size ∧ ¬ RcW o r w.heap.size from h.notW (Nat.le_refl _))
  have HBS := Lib.hid h.rc.bs
  clear h hk hdv HP HR HQ
  go_enter Tryz.func23, Tryz.ntmps23
  go_upto_region 1 with fail
  change Code.wp _ _ _ _ (w.alloc (.cells (actC a (.slice A a.data.length cp)) 40))
  generalize w.alloc (.cells (actC a (.slice A a.data.length cp)) 40) = W at *
  obtain ⟨ab, hab⟩ : ∃ ab, ab = w.heap.size := ⟨_, rfl⟩
  have HAB := Lib.hid (show w.heap.size ≤ ab from Nat.le_of_eq hab.symm)
  rw [← hab] at HA HNC ⊢
  clear hab
  have x0 : W.cell? ⟨ab, 0, none⟩ = some (.int .i64 2) := by rw [← HK.out]; exact HA.out.cellAt rfl
  have k1 : W.drew.cell? ⟨ab, 2, none⟩ = some (.int .i64 a.b) := HA.out.cellAt rfl
  have k2 : W.drew.cell? ⟨ab, 3, none⟩ = some (.slice A a.data.length cp) := HA.out.cellAt rfl
  go_upto_region 12 with fail
  clear x0
  refine wp_region_tail (S := (fun w' : World => w'.cell? ⟨ab, 2, none⟩ = some (.int .i64 a.b) ∧ w'.cell? ⟨ab, 3, none⟩ = some (.slice A a.data.length cp))) 9 (by kernel_rfl) (by kernel_rfl) ?_ ?_
  · exact ⟨by assumption, by assumption⟩
  intro hSS
  refine wpHd_take (i := 0) (v := ?_) (by kernel_rfl) rfl (by kernel_rfl) (fun _ _ _ h => h) (.inl ⟨by rfl, ?_⟩) hSS ?_
  rotate_left
  · intro w hSw; (try dsimp only at hSw); go_simp; (try with_reducible rfl)
  refine wpHd_take (i := 1) (v := ?_) (by kernel_rfl) rfl (by kernel_rfl) (fun _ _ _ h => h) (.inl ⟨by rfl, ?_⟩) hSS ?_
  rotate_left
  · intro w hSw; (try dsimp only at hSw); go_simp; (try with_reducible rfl)
  refine wpHd_take (i := 2) (v := ?_) (by kernel_rfl) rfl (by kernel_rfl) (fun _ _ _ h => h) (.inl ⟨by rfl, ?_⟩) hSS ?_
  rotate_left
  · intro w hSw; (try dsimp only at hSw); go_simp; (try with_reducible rfl)
  refine wpHd_take (i := 4) (v := ?_) (by kernel_rfl) rfl (by kernel_rfl) (fun _ _ _ h => h) (.inl ⟨by rfl, ?_⟩) hSS ?_
  rotate_left
  · intro w hSw; (try dsimp only at hSw); go_simp; (try with_reducible rfl)
  refine wpHd_take (i := 5) (v := ?_) (by kernel_rfl) rfl (by kernel_rfl) (fun _ _ _ h => h) (.inl ⟨by rfl, ?_⟩) hSS ?_
  rotate_left
  · intro w hSw; (try dsimp only at hSw); go_simp; (try with_reducible rfl)
  try simp only [Act.put, List.getElem_toArray, List.getElem_cons_succ, List.getElem_cons_zero, List.setIfInBounds_toArray, List.set_cons_zero, List.set_cons_succ]
  refine wpHd_take (i := 6) (v := ?_) (by kernel_rfl) rfl (by kernel_rfl) (fun _ _ _ h => h) (.inl ⟨by rfl, ?_⟩) hSS ?_
  rotate_left
  · intro w hSw; (try dsimp only at hSw); go_simp; (try with_reducible rfl)
  try simp only [Act.put, List.getElem_toArray, List.getElem_cons_succ, List.getElem_cons_zero, List.setIfInBounds_toArray, List.set_cons_zero, List.set_cons_succ]
  refine wpHd_one (i := 3) rfl (by kernel_rfl) (fun Kc hK => ?_)
  go_simp
  refine (HPP.out W.drew (H.out.keep ((Only.refl Non W).drew)) (HBY.out.keep (HO.out.drew) fun _ _ _ _ => id)).mono ?_
  rintro e W1 ⟨rfl, D', hq, h1, h2⟩
  have HQ1 := Lib.hid hq
  have H1 := Lib.hid h1
  have HO1 := Lib.hid (((Only.refl (PrW K i cb mb) W).drew).trans h2)
  have k1 := h2.cell hSS.1 HNC.out.1
  have k2 := h2.cell hSS.2 HNC.out.1
  clear hq h1 h2
  refine hK.out _ _ ?_ (fun hSS => ?_)
  · exact ⟨by assumption, by assumption⟩
  clear hK
  try simp only [Act.put, List.getElem_toArray, List.getElem_cons_succ, List.getElem_cons_zero, List.setIfInBounds_toArray, List.set_cons_zero, List.set_cons_succ]
  refine wpHd_one (i := 7) rfl (by kernel_rfl) (fun Kc hK => ?_)
  go_simp
  refine (HRR.out W1 _ H1.out ((HBY.out.keep (HO.out.mono (S' := CjW i cb mb o r) fun _ h => h.elim) fun h0 j hj _ => HDV.out h0 j hj).keep (HO1.out.mono (S' := CjW i cb mb o r) fun j hj => .inl (.inl hj)) fun h0 j hj _ => HDV.out h0 j hj)).mono ?_
  rintro e W2 ⟨rfl, h1, h2⟩
  have H2 := Lib.hid (H1.out.ref h1 h2)
  have HO2 := Lib.hid h2
  have k1 := h2.cell hSS.1 HNC.out.2
  have k2 := h2.cell hSS.2 HNC.out.2
  clear h1 h2
  refine hK.out _ _ ?_ (fun hSS => ?_)
  · exact ⟨by assumption, by assumption⟩
  clear hK
  refine wpHd_take (i := 8) (v := ?_) (by kernel_rfl) rfl (by kernel_rfl) (fun _ _ _ h => h) (.inl ⟨by rfl, ?_⟩) hSS ?_
  rotate_left
  · intro w hSw; (try dsimp only at hSw); go_simp; (try with_reducible rfl)
  try simp only [Act.put, List.getElem_toArray, List.getElem_cons_succ, List.getElem_cons_zero, List.setIfInBounds_toArray, List.set_cons_zero, List.set_cons_succ]
  refine wpHd_end (by kernel_rfl) ?_
  clear hSS k1 k2
  go_wp2
  go_ret
  exact ⟨s, _, Dr', by simp, H2.out, HQQ.out _ HQ1.out, Nat.le_succ _, ((HO.out.mono (S' := CjW i cb mb o r) fun _ h => h.elim).trans' HO1.out fun j hj => .inl (.inl hj)).trans' HO2.out fun j hj => .inl (.inr hj)⟩
theorem do_drop {t : Bool} {bv : Int} {l : List Int} {s' : K.σ} {Q : (Int → Option Blk) → Prop} (h : Cj i cb mb hv o r s s D Dr w) (hk : a.kind = 3)
    (HP : ∀ W, Cj i cb mb hv o r s s D Dr W → Calls Tryz.prog 96 #[.pointer (some ⟨cb, 0, none⟩), .int .i64 a.b] W fun e w' => ∃ A n m D', e = .returned (.tuple #[.agg #[.int .i64 bv, .slice A n m], .bool t]) ∧ Byt w' (.slice A n m) l ∧ (0 < l.length → ∀ j, ownB (.slice A n m) j → ¬ RcW o r j) ∧ Q D' ∧ Cj i cb mb hv o r s' s D' Dr w' ∧ Only (PrW K i cb mb) W w')
    (HR : ∀ W D', Cj i cb mb hv o r s' s D' Dr W → Calls Tryz.prog 97 #[.pointer (some ⟨r.cb, 0, none⟩), .int .i64 a.b] W fun e w' => ∃ A n m, e = .returned (.tuple #[.agg #[.int .i64 bv, .slice A n m], .bool t]) ∧ Byt w' (.slice A n m) l ∧ Rch o r s' Dr w' ∧ Only (RcW o r) W w')
    (HQ : ∀ D', Q D' → Ck (K := K) c s' D' Dr) (hage : K.sp.age s' ≤ K.sp.age s + 1) :
    Calls Tryz.prog 23 #[.pointer (some ⟨cb, 0, none⟩), .pointer (some ⟨r.cb, 0, none⟩), .agg (actC a dv)] w (DoP i cb mb hv o r s w) := by
  have HQQ := Lib.hid HQ
  have HAG := Lib.hid hage
  have HPP := Lib.hid HP
  have HRR := Lib.hid HR
  have HA := Lib.hid (Box.fresh w 40 (actC a dv))
  have HO := Lib.hid ((Only.refl Non w).alloc (.cells (actC a dv) 40))
  have H := Lib.hid (h.keep HO.out)
  have HK := Lib.hid hk
  have HNC := Lib.hid (show ¬ PrW K i cb mb w.heap.size ∧ ¬ RcW o r w.heap.size from h.notW (Nat.le_refl _))
  have HBS := Lib.hid h.rc.bs
  clear h hk HP HR HQ hage
  go_enter Tryz.func23, Tryz.ntmps23
  go_upto_region 1 with fail
  change Code.wp _ _ _ _ (w.alloc (.cells (actC a dv) 40))
  generalize w.alloc (.cells (actC a dv) 40) = W at *
  obtain ⟨ab, hab⟩ : ∃ ab, ab = w.heap.size := ⟨_, rfl⟩
  have HAB := Lib.hid (show w.heap.size ≤ ab from Nat.le_of_eq hab.symm)
  rw [← hab] at HA HNC ⊢
  clear hab
  have x0 : W.cell? ⟨ab, 0, none⟩ = some (.int .i64 3) := by rw [← HK.out]; exact HA.out.cellAt rfl
  have x2 : W.cell? ⟨ab, 2, none⟩ = some (.int .i64 a.b) := HA.out.cellAt rfl
  go_upto_region 15 with (first | (go_at_call 96; refine (HPP.out W H.out).mono ?_; rintro e W1 ⟨A1, n1, m1, D', rfl, h1, h2, h3, h4, h5⟩; have HV1 := Lib.hid h1; have HN1 := Lib.hid h2; have HQ1 := Lib.hid h3; have H1 := Lib.hid h4; have HO1 := Lib.hid h5; have HA1 := Lib.hid (h5.box HA.out HNC.out.1); clear h1 h2 h3 h4 h5) | (refine wpList_store_row rfl 38 _ _ rfl W1.heap.size #[.int .i64 bv, .slice A1 n1 m1] rfl rfl 38 _ (Box.fresh W1 38 zF) (by kernel_rfl) rfl (by simp [Value.oneCell']) ?_))
  have ho2 : Only Non W1 ((W1.alloc (.cells zF 38)).setRow W1.heap.size #[.int .i64 bv, .slice A1 n1 m1]) := ((Only.refl Non W1).alloc _).setRow' (.inr (Nat.le_refl _)) _
  have HF2 := Lib.hid ((Box.fresh W1 38 zF).setRow' #[.int .i64 bv, .slice A1 n1 m1])
  have H2 := Lib.hid (H1.out.keep ho2)
  have HV2 := Lib.hid (HV1.out.keep ho2 fun _ _ _ _ => id)
  have HA2 := Lib.hid (ho2.box HA1.out id)
  have HO2 := Lib.hid (HO1.out.transN ho2)
  have HFB := Lib.hid (show ¬ RcW o r W1.heap.size from fun e => by have := H1.out.rc.ltW e; have := H1.out.rc.bs; omega)
  change Code.wp _ _ _ _ ((W1.alloc (.cells zF 38)).setRow W1.heap.size #[.int .i64 bv, .slice A1 n1 m1])
  clear ho2 H1 HV1 HA1 HO1 x2 x0 HPP
  generalize (W1.alloc (.cells zF 38)).setRow W1.heap.size #[.int .i64 bv, .slice A1 n1 m1] = W2 at *
  generalize W1.heap.size = f1 at *
  have x2 : W2.cell? ⟨ab, 2, none⟩ = some (.int .i64 a.b) := HA2.out.cellAt rfl
  go_upto_region 16 with (first | (go_at_call 97; refine (HRR.out W2 _ H2.out).mono ?_; rintro e W3 ⟨A3, n3, m3, rfl, h1, h2, h3⟩; have HV3 := Lib.hid h1; have HVV := Lib.hid (HV2.out.keep h3 fun h0 j hj _ => HN1.out h0 j hj); have H3 := Lib.hid (H2.out.ref h2 h3); have HO3 := Lib.hid h3; have HF3 := Lib.hid (h3.box HF2.out HFB.out); clear h1 h2 h3) | (refine wpList_store_row rfl 38 _ _ rfl W3.heap.size #[.int .i64 bv, .slice A3 n3 m3] rfl rfl 38 _ (Box.fresh W3 38 zF) (by kernel_rfl) rfl (by simp [Value.oneCell']) ?_))
  have ho4 : Only Non W3 ((W3.alloc (.cells zF 38)).setRow W3.heap.size #[.int .i64 bv, .slice A3 n3 m3]) := ((Only.refl Non W3).alloc _).setRow' (.inr (Nat.le_refl _)) _
  have HF4 := Lib.hid (ho4.box HF3.out id)
  have HG4 := Lib.hid ((Box.fresh W3 38 zF).setRow' #[.int .i64 bv, .slice A3 n3 m3])
  have H4 := Lib.hid (H3.out.keep ho4)
  have HV4 := Lib.hid (HVV.out.keep ho4 fun _ _ _ _ => id)
  have HU4 := Lib.hid (HV3.out.keep ho4 fun _ _ _ _ => id)
  have HO4 := Lib.hid (HO3.out.transN ho4)
  change Code.wp _ _ _ _ ((W3.alloc (.cells zF 38)).setRow W3.heap.size #[.int .i64 bv, .slice A3 n3 m3])
  clear ho4 H3 HV3 HVV HO3 x2 HRR HF3
  generalize (W3.alloc (.cells zF 38)).setRow W3.heap.size #[.int .i64 bv, .slice A3 n3 m3] = W4 at *
  generalize W3.heap.size = g1 at *
  have HSF := sameFrame_any bv bv W4 HV4.out HU4.out
  rw [decide_eq_true (rfl : bv = bv), decide_eq_true (rfl : l = l)] at HSF
  have HSF := Lib.hid HSF
  have y0 : W4.cell? ⟨f1, 0, none⟩ = some (.int .i64 bv) := HF4.out.cellAt rfl
  have y1 : W4.cell? ⟨f1, 1, none⟩ = some (.slice A1 n1 m1) := HF4.out.cellAt rfl
  have y2 : W4.cell? ⟨g1, 0, none⟩ = some (.int .i64 bv) := HG4.out.cellAt rfl
  have y3 : W4.cell? ⟨g1, 1, none⟩ = some (.slice A3 n3 m3) := HG4.out.cellAt rfl
  go_wp2_with (go_at_call 82; refine HSF.out.mono ?_; rintro e W5 ⟨rfl, ho5⟩)
  go_ret
  exact ⟨s', _, Dr, by simp, H4.out.keep ho5, HQQ.out _ HQ1.out, HAG.out, (((HO.out.mono (S' := CjW i cb mb o r) fun _ h => h.elim).trans' HO2.out fun j hj => .inl (.inl hj)).trans' HO4.out fun j hj => .inl (.inr hj)).transN ho5⟩
theorem do_put {v cd : Int} {g : Bool} {l : List Int} {s' : K.σ} {Dr' : Nat → List Int} {Q : (Int → Option Blk) → Prop} (h : Cj i cb mb hv o r s s D Dr w) (hk : a.kind = 1) (hby : Byt w dv a.data) (hdv : 0 < a.data.length → ∀ j, ownB dv j → ¬ CjW i cb mb o r j) (hl100 : a.data.length ≤ 1000000)
    (HP : ∀ W A n m, Cj i cb mb hv o r s s D Dr W → Byt W (.slice A n m) a.data → (∀ j, ownB (.slice A n m) j → w.heap.size ≤ j) → Calls Tryz.prog 81 #[.pointer (some ⟨cb, 0, none⟩), .agg #[.int .i64 a.b, .slice A n m], .int .i64 a.level] W fun e w' => ∃ A n m D', e = .returned (.tuple #[.agg #[.int .i64 v, .slice A n m], .bool g, .int .i64 cd]) ∧ Byt w' (.slice A n m) l ∧ (0 < l.length → ∀ j, ownB (.slice A n m) j → ¬ RcW o r j) ∧ Q D' ∧ Cj i cb mb hv o r s' s D' Dr w' ∧ Only (PrW K i cb mb) W w')
    (HR : ∀ W D', Cj i cb mb hv o r s' s D' Dr W → Byt W dv a.data → Calls Tryz.prog 93 #[.pointer (some ⟨r.cb, 0, none⟩), .agg #[.int .i64 a.b, dv], .int .i64 a.level] W fun e w' => ∃ A n m, e = .returned (.agg (rwC v (.slice A n m) g cd)) ∧ Byt w' (.slice A n m) l ∧ Rch o r s' Dr' w' ∧ Only (RcW o r) W w')
    (HQ : ∀ D', Q D' → Ck (K := K) c s' D' Dr') (hage : K.sp.age s' ≤ K.sp.age s + 1) :
    Calls Tryz.prog 23 #[.pointer (some ⟨cb, 0, none⟩), .pointer (some ⟨r.cb, 0, none⟩), .agg (actC a dv)] w (DoP i cb mb hv o r s w) := by
  have HDV := Lib.hid hdv
  have HQQ := Lib.hid HQ
  have HBY := Lib.hid hby
  have HL := Lib.hid hl100
  obtain ⟨A, cp, rfl, _, _, hsrc⟩ := hby
  have HSRC := Lib.hid hsrc
  have HAG := Lib.hid hage
  have HPP := Lib.hid HP
  have HRR := Lib.hid HR
  have HA := Lib.hid (Box.fresh w 40 (actC a (.slice A a.data.length cp)))
  have HO := Lib.hid ((Only.refl Non w).alloc (.cells (actC a (.slice A a.data.length cp)) 40))
  have H := Lib.hid (h.keep HO.out)
  have HK := Lib.hid hk
  have HNC := Lib.hid (show ¬ PrW K i cb mb w.heap.size ∧ ¬ RcW o r w.heap.size from h.notW (Nat.le_refl _))
  have HBS := Lib.hid h.rc.bs
  clear h hk hdv hsrc HP HR HQ hage hl100
  go_enter Tryz.func23, Tryz.ntmps23
  go_upto_region 1 with fail
  change Code.wp _ _ _ _ (w.alloc (.cells (actC a (.slice A a.data.length cp)) 40))
  generalize w.alloc (.cells (actC a (.slice A a.data.length cp)) 40) = W at *
  obtain ⟨ab, hab⟩ : ∃ ab, ab = w.heap.size := ⟨_, rfl⟩
  have HAB := Lib.hid (show w.heap.size ≤ ab from Nat.le_of_eq hab.symm)
  rw [← hab] at HA HNC ⊢
  clear hab
  have x0 : W.cell? ⟨ab, 0, none⟩ = some (.int .i64 1) := by rw [← HK.out]; exact HA.out.cellAt rfl
  have x3 : W.cell? ⟨ab, 3, none⟩ = some (.slice A a.data.length cp) := HA.out.cellAt rfl
  have hrow : Row 5 (W.alloc (.cells #[] 5)) (.slice (some ⟨W.heap.size, 0, none⟩) 0 0) [] := .inr ⟨W.heap.size, 0, #[], rfl, Box.fresh W _ _, Nat.le_refl _, Nat.le_refl _, Nat.zero_le _, rfl⟩
  have HRW := Lib.hid hrow
  have HS1 := Lib.hid (HSRC.out.only (HO.out.alloc (.cells #[] 5)) fun _ _ _ _ => id)
  have HB1 := Lib.hid (show ([] : List Value).length + (bytes a.data).length ≤ maxLen by rw [byt_len]; have := HL.out; unfold maxLen; simp; omega)
  have HB2 := Lib.hid (show (([] : List Value).length + (bytes a.data).length) * 1 ≤ 140737488355328 by rw [byt_len]; have := HL.out; simp; omega)
  have x3' : (W.alloc (.cells #[] 5)).cell? ⟨ab, 3, none⟩ = some (.slice A a.data.length cp) := ((Only.refl Non W).alloc _).cell x3 id
  clear hrow
  go_upto_region 8 with (at_builtin; refine wpList_append_row _ rfl (.tmp 50) (.tmp 53) 36 5 rfl byteInfo rfl Tryz.underlying36 (.slice (some ⟨W.heap.size, 0, none⟩) 0 0) [] rfl HRW.out A a.data.length cp (bytes a.data) rfl (by rw [byt_len]) HS1.out (bytes_one a.data) HB1.out HB2.out ?_; intro v1 W1 hr1 ho1 hk1 _; have HV1 := Lib.hid hr1; have HO1 := Lib.hid (((Only.refl Non W).alloc (.cells #[] 5)).trans' ho1 fun j hj => .inr (Nat.le_of_eq (ownB_slice.1 hj))); have HK1 := Lib.hid hk1; clear hr1 ho1 hk1)
  rw [List.nil_append] at HV1
  have hrb : RByt W1 v1 a.data := ⟨HV1.out, HL.out⟩
  obtain ⟨A1, c1, e1⟩ := hrb.shape
  subst e1
  have HWB := Lib.hid (show ∀ j, ownB (.slice A1 a.data.length c1) j → w.heap.size ≤ j from fun j hj => by
    have h1 := HO.out.size
    rcases HK1.out j hj with h | h
    · have := ownB_slice.1 h; omega
    · rw [World.size_alloc] at h; omega)
  have HRB := Lib.hid hrb
  have H1 := Lib.hid (H.out.keep HO1.out)
  have HA1 := Lib.hid (HO1.out.box HA.out id)
  have x0' : W1.cell? ⟨ab, 1, none⟩ = some (.int .i64 a.level) := HA1.out.cellAt rfl
  have x2 : W1.cell? ⟨ab, 2, none⟩ = some (.int .i64 a.b) := HA1.out.cellAt rfl
  clear hrb x3 x3' x0 HRW HS1 HB1 HB2 HV1 HK1
  go_upto_region 9 with (first | (go_at_call 81; refine (HPP.out W1 _ _ _ H1.out HRB.out.byt HWB.out).mono ?_; rintro e W2 ⟨A2, n2, m2, D', rfl, h1, h2, h3, h4, h5⟩; have HV2 := Lib.hid h1; have HN2 := Lib.hid h2; have HQ2 := Lib.hid h3; have H2 := Lib.hid h4; have HO2 := Lib.hid h5; have HA2 := Lib.hid (h5.box HA1.out HNC.out.1); have HW2 := Lib.hid (HRB.out.byt.keep h5 fun _ j hj _ e => by have := HWB.out j hj; have := H.out.lo j e; have := HBS.out; omega); clear h1 h2 h3 h4 h5) | (refine wpList_store_row rfl 38 _ _ rfl W2.heap.size #[.int .i64 v, .slice A2 n2 m2] rfl rfl 38 _ (Box.fresh W2 38 zF) (by kernel_rfl) rfl (by simp [Value.oneCell']) ?_))
  have ho3 : Only Non W2 ((W2.alloc (.cells zF 38)).setRow W2.heap.size #[.int .i64 v, .slice A2 n2 m2]) := ((Only.refl Non W2).alloc _).setRow' (.inr (Nat.le_refl _)) _
  have HF3 := Lib.hid ((Box.fresh W2 38 zF).setRow' #[.int .i64 v, .slice A2 n2 m2])
  have H3 := Lib.hid (H2.out.keep ho3)
  have HV3 := Lib.hid (HV2.out.keep ho3 fun _ _ _ _ => id)
  have HW3 := Lib.hid (HW2.out.keep ho3 fun _ _ _ _ => id)
  have HA3 := Lib.hid (ho3.box HA2.out id)
  have HO3 := Lib.hid (HO2.out.transN ho3)
  have HFB := Lib.hid (show ¬ RcW o r W2.heap.size from fun e => by have := H2.out.rc.ltW e; have := H2.out.rc.bs; omega)
  change Code.wp _ _ _ _ ((W2.alloc (.cells zF 38)).setRow W2.heap.size #[.int .i64 v, .slice A2 n2 m2])
  clear ho3 H2 HV2 HW2 HA2 HO2 x2 x0' HPP
  generalize (W2.alloc (.cells zF 38)).setRow W2.heap.size #[.int .i64 v, .slice A2 n2 m2] = W3 at *
  generalize W2.heap.size = f1 at *
  have x1 : W3.cell? ⟨ab, 1, none⟩ = some (.int .i64 a.level) := HA3.out.cellAt rfl
  have x2 : W3.cell? ⟨ab, 2, none⟩ = some (.int .i64 a.b) := HA3.out.cellAt rfl
  have x3 : W3.cell? ⟨ab, 3, none⟩ = some (.slice A a.data.length cp) := HA3.out.cellAt rfl
  have HBY3 := Lib.hid (HBY.out.keep (((HO.out.trans HO1.out).mono (S' := CjW i cb mb o r) fun _ h => h.elim).trans' HO3.out fun j hj => .inl (.inl hj)) fun h0 j hj _ => HDV.out h0 j hj)
  go_upto_region 10 with (first | (go_at_call 93; refine (HRR.out W3 _ H3.out HBY3.out).mono ?_; rintro e W4 ⟨A4, n4, m4, rfl, h1, h2, h3⟩; have HV4 := Lib.hid h1; have HVV := Lib.hid (HV3.out.keep h3 fun h0 j hj _ => HN2.out h0 j hj); have HBY4 := Lib.hid (HBY3.out.keep h3 fun h0 j hj _ e => HDV.out h0 j hj (.inr e)); have HW4 := Lib.hid (HW3.out.keep h3 fun _ j hj _ e => by have := HWB.out j hj; have := H.out.rc.ltW e; have := HBS.out; omega); have H4 := Lib.hid (H3.out.ref h2 h3); have HO4 := Lib.hid h3; have HF4 := Lib.hid (h3.box HF3.out HFB.out); have HA4 := Lib.hid (h3.box HA3.out HNC.out.2); clear h1 h2 h3) | (refine wpList_store_row rfl 160 _ _ rfl W4.heap.size (rwC v (.slice A4 n4 m4) g cd) rfl rfl 160 _ (Box.fresh W4 160 (rwC 0 (.slice none 0 0) false 0)) (by kernel_rfl) rfl (rwC_one _ _ _ _ _ _) ?_))
  have ho5 : Only Non W4 ((W4.alloc (.cells (rwC 0 (.slice none 0 0) false 0) 160)).setRow W4.heap.size (rwC v (.slice A4 n4 m4) g cd)) := ((Only.refl Non W4).alloc _).setRow' (.inr (Nat.le_refl _)) _
  have HF5 := Lib.hid (ho5.box HF4.out id)
  have HG5 := Lib.hid ((Box.fresh W4 160 (rwC 0 (.slice none 0 0) false 0)).setRow' (rwC v (.slice A4 n4 m4) g cd))
  have H5 := Lib.hid (H4.out.keep ho5)
  have HV5 := Lib.hid (HVV.out.keep ho5 fun _ _ _ _ => id)
  have HU5 := Lib.hid (HV4.out.keep ho5 fun _ _ _ _ => id)
  have HW5 := Lib.hid (HW4.out.keep ho5 fun _ _ _ _ => id)
  have HB5 := Lib.hid (HBY4.out.keep ho5 fun _ _ _ _ => id)
  have HA5 := Lib.hid (ho5.box HA4.out id)
  have HO5 := Lib.hid (HO4.out.transN ho5)
  change Code.wp _ _ _ _ ((W4.alloc (.cells (rwC 0 (.slice none 0 0) false 0) 160)).setRow W4.heap.size (rwC v (.slice A4 n4 m4) g cd))
  clear ho5 H4 HV4 HVV HO4 x1 x2 x3 HRR HF4 HA4 HW4 HBY4
  generalize (W4.alloc (.cells (rwC 0 (.slice none 0 0) false 0) 160)).setRow W4.heap.size (rwC v (.slice A4 n4 m4) g cd) = W5 at *
  generalize W4.heap.size = g1 at *
  have HSF := sameFrame_any v v W5 HV5.out HU5.out
  rw [decide_eq_true (rfl : v = v), decide_eq_true (rfl : l = l)] at HSF
  have HSF := Lib.hid HSF
  have HSM := Lib.hid fun (W : World) (ho : Only Non W5 W) => by
    have := same_any (.slice A1 a.data.length c1) (.slice A a.data.length cp) a.data a.data W (HW5.out.keep ho fun _ _ _ _ => id) (HB5.out.keep ho fun _ _ _ _ => id)
    rwa [decide_eq_true (rfl : a.data = a.data)] at this
  have y0 : W5.cell? ⟨g1, 0, none⟩ = some (.int .i64 v) := HG5.out.cellAt rfl
  have y1 : W5.cell? ⟨g1, 1, none⟩ = some (.slice A4 n4 m4) := HG5.out.cellAt rfl
  go_wp2_with (first | (refine wpList_load_row (o := ⟨some 74, _, _, _, _, _⟩) rfl 38 _ rfl f1 rfl 38 #[.int .i64 v, .slice A2 n2 m2] (0, 0) _ HF5.out Tryz.underlying38 rfl (by kernel_rfl) ?_) | (go_at_call 82; refine HSF.out.mono ?_; rintro e W6 ⟨rfl, ho6⟩; have y2 : W6.cell? ⟨g1, 2, none⟩ = some (.bool g) := ho6.cell (HG5.out.cellAt rfl) id; have y3 : W6.cell? ⟨g1, 3, none⟩ = some (.int .i64 cd) := ho6.cell (HG5.out.cellAt rfl) id; have y4 : W6.cell? ⟨ab, 3, none⟩ = some (.slice A a.data.length cp) := ho6.cell (HA5.out.cellAt rfl) id; have HO6 := Lib.hid ho6; have HS6 := Lib.hid (HSM.out W6 ho6); clear ho6) | (go_at_call 58; refine HS6.out.mono ?_; rintro e W7 ⟨rfl, mm, rfl⟩))
  go_ret
  exact ⟨s', _, Dr', by simp, (H5.out.keep HO6.out).keep ((Only.refl Non _).drewN _), HQQ.out _ HQ2.out, HAG.out, (((((HO.out.trans HO1.out).mono (S' := CjW i cb mb o r) fun _ h => h.elim).trans' HO3.out fun j hj => .inl (.inl hj)).trans' HO5.out fun j hj => .inl (.inr hj)).transN HO6.out).drewN _⟩
end
section
variable {c : CfgA} {k : Nat} {hP : CfgP c} {hk : k < 3} {i : (kOf c k hP hk).ι} {cb mb : Nat} {hv dv : Value} {o : RefO (kOf c k hP hk) c k} {r : RcI} {s : (kOf c k hP hk).σ} {D : Int → Option Blk} {Dr : Nat → List Int} {w : World} {a : ActC}
theorem putD_from {D : Int → Option Blk} {g : Bool} {v b : Int} {p : Blk} {y : Int} {l : List Int} {u : Value} (h : putD D g v b p y = some (l, u)) : (y = b ∧ p = (l, u)) ∨ (y ≠ b ∧ D y = some (l, u)) := by
  unfold putD updI at h
  by_cases e : y = b
  · rw [if_pos e] at h
    injection h with h
    exact .inl ⟨e, h⟩
  · rw [if_neg e] at h
    refine .inr ⟨e, ?_⟩
    split at h
    · dsimp only at h
      split at h
      · cases h
      · exact h
    · exact h
theorem rput_no {b : Int} {dl : List Int} {u : Value} {level : Int} (hr : Rch o r s Dr w) (hI : o.Inv s) (hby : Byt w u dl) (hc : putCode c k b dl.length level ≠ 0) :
    Calls Tryz.prog 93 #[.pointer (some ⟨r.cb, 0, none⟩), .agg #[.int .i64 b, u], .int .i64 level] w fun e w' => e = .returned (.agg (rwC 0 (.slice none 0 0) false (putCode c k b dl.length level))) ∧ Only Non w w' := by
  unfold putCode thereB at hc ⊢
  by_cases h0 : 0 ≤ b
  · by_cases h1 : b < c.f 2
    · rw [decide_eq_true h0, decide_eq_true h1] at hc ⊢
      rw [if_neg (by decide)] at hc ⊢
      by_cases hl : (dl.length : Int) = c.f 3
      · rw [if_neg (fun e => e hl)] at hc ⊢
        by_cases ht : takesB c k b level = false
        · rw [if_pos ht]
          exact rch_put_no hr hby hI h0 h1 hl ht
        · rw [if_neg ht] at hc
          exact absurd rfl hc
      · rw [if_pos hl]
        exact rch_put_len hr hby h0 h1 hl
    · rw [decide_eq_false h1, Bool.and_false, if_pos rfl]
      exact rch_put_out hr hby h0 (by omega)
  · rw [decide_eq_false h0, Bool.false_and, if_pos rfl]
    exact rch_put_neg hr hby (by omega)
theorem Cj.dataOff {K : OKind} {c : CfgA} {k : Nat} {i : K.ι} {cb mb : Nat} {hv : Value} {o : RefO K c k} {r : RcI} {s s2 : K.σ} {D : Int → Option Blk} {Dr : Nat → List Int} {w : World} (h : Cj i cb mb hv o r s s2 D Dr w) {b : Int} {l : List Int} {v : Value} (hb : D b = some (l, v)) : ∀ j, ownB v j → ¬ RcW o r j :=
  fun j hj e => h.sep j e (.inr (.inr (.inr (.inl ⟨b, l, v, hb, hj⟩))))
theorem DatB.sl {w : World} {cb mb : Nat} {F : Nat → Prop} {size : Int} {l : List Int} {v : Value} (h : DatB w cb mb F size l v) : ∃ A n m, v = .slice A n m := by
  obtain ⟨_, _, g, ca, e, _⟩ := h
  exact ⟨_, _, _, e⟩
theorem do_put_any (h : Cj i cb mb hv o r s s D Dr w) (he : Ck (K := kOf c k hP hk) c s D Dr) (hk1 : a.kind = 1) (hby : Byt w dv a.data) (hdv : 0 < a.data.length → ∀ j, ownB dv j → ¬ CjW i cb mb o r j) (hl : a.data.length ≤ 1000000) (hage : (kOf c k hP hk).sp.age s < maxAge) :
    Calls Tryz.prog 23 #[.pointer (some ⟨cb, 0, none⟩), .pointer (some ⟨r.cb, 0, none⟩), .agg (actC a dv)] w (DoP i cb mb hv o r s w) := by
  have hI := h.inv
  by_cases hc : putCode c k a.b a.data.length a.level = 0
  · obtain ⟨ht, hlen, h0, h1⟩ := putCode_zero hc
    have hp2 := hP.p2
    have hp3 := hP.p3
    have hts : (kOf c k hP hk).sp.takes a.b := takesB_sp ht
    obtain ⟨n, hn⟩ := Int.eq_ofNat_of_zero_le h0
    have hlow : ∀ {A n m} {W : World}, Cj i cb mb hv o r s s D Dr W → (∀ j, ownB (.slice A n m) j → w.heap.size ≤ j) → ∀ j, ownB (.slice A n m) j → ¬ (kOf c k hP hk).F i j ∧ j ≠ mb := fun hC hw j hj => by
      have h1 := hw j hj
      have h2 := h.rc.bs
      exact ⟨fun e => by have := h.lo j (.inl e); omega, fun e => by have := h.lo j (.inr (.inr e)); omega⟩
    have hck : ∀ {g : Bool} {v : Int} {vv : Value}, (∀ y, y ∈ (kOf c k hP hk).sp.all ((kOf c k hP hk).sp.add s a.b).1 → y = a.b ∨ y ∈ (kOf c k hP hk).sp.all s) → Ck (K := kOf c k hP hk) c ((kOf c k hP hk).sp.add s a.b).1 (putD D g v a.b (a.data, vv)) (updN Dr n a.data) := fun hmem =>
      { eq := fun y l u hy => by
          rcases putD_from hy with ⟨e1, e2⟩ | ⟨e1, e2⟩
          · injection e2 with e2
            rw [e1, hn, Int.toNat_natCast]
            unfold updN
            rw [if_pos rfl]; exact e2
          · have h5 := he.rg y (h.ch.in_ e2)
            unfold updN
            rw [if_neg (fun e => e1 (by omega))]
            exact he.eq y l u e2
        rg := fun y hy => by
          rcases hmem y hy with e | e
          · rw [e]; exact ⟨h0, h1⟩
          · exact he.rg y e }
    have hnew : ∀ {g : Bool} {v : Int} {vv : Value} {W : World}, (∀ j, ownB vv j → W.heap.size ≤ j) → ∀ b l u, putD D g v a.b (a.data, vv) b = some (l, u) → D b = some (l, u) ∨ ∀ j, ownB u j → W.heap.size ≤ j := fun hvv b l u hb => by
      rcases putD_from hb with ⟨_, e2⟩ | ⟨_, e2⟩
      · injection e2 with _ e2
        exact .inr (e2 ▸ hvv)
      · exact .inl e2
    have hag := ((kOf c k hP hk).oc i).ageA s a.b
    rcases ((kOf c k hP hk).oc i).addL h.ch.ord h0 (by omega) hts with ⟨e1, e2, e3⟩ | ⟨e1, e2, e3, e4⟩
    · refine do_put (v := 0) (cd := 0) (g := false) (l := []) (s' := ((kOf c k hP hk).sp.add s a.b).1) (Dr' := updN Dr n a.data) (Q := fun D' => ∃ vv, D' = putD D false 0 a.b (a.data, vv)) h hk1 hby hdv hl (fun W A m m' hC hbW hwW => ?_) (fun W D' hC hbW => ?_) (fun D' hq => ?_) hag
      · refine (put_done (level := a.level) hC.ch hbW (hlow hC hwW) hc hage).mono fun e w' ⟨vv, h2, h3, h4, h5⟩ => ?_
        rw [e1, e2] at h2 h3
        exact ⟨none, 0, 0, _, h2, (RByt.nil _).byt, fun h => absurd h (by decide), ⟨vv, rfl⟩, hC.prog h3 (h5.mono fun j hj => .inl (PrW.of2 hj)) (hnew h4), h5.mono fun j hj => .inl (PrW.of2 hj)⟩
      · rw [hn] at e1 hts ht h1 ⊢
        refine (rch_put_room hC.rc hI h1 hlen ht hts hage hbW (fun j hj e => hdv (by omega) j hj (.inr e)) e1).mono fun e w' ⟨vd, h2, h3, h4, h5, h6⟩ => ?_
        rw [e1, if_neg (by decide)] at h2 h3
        obtain ⟨A2, c2, e5⟩ := h3.shape
        exact ⟨A2, _, c2, by rw [h2, e5], by rw [← e5]; exact h3.byt, h5, h6⟩
      · obtain ⟨vv, rfl⟩ := hq
        exact hck fun y hy => (e3 y).1 hy
    · obtain ⟨⟨l0, vd0⟩, hD⟩ := Option.isSome_iff_exists.1 ((h.ch.keys _).2 e2)
      have hvr := he.rg _ e2
      obtain ⟨m, hm⟩ := Int.eq_ofNat_of_zero_le hvr.1
      refine do_put (v := (m : Int)) (cd := 0) (g := true) (l := l0) (s' := ((kOf c k hP hk).sp.add s a.b).1) (Dr' := updN Dr n a.data) (Q := fun D' => ∃ vv, D' = putD D true (m : Int) a.b (a.data, vv)) h hk1 hby hdv hl (fun W A m1 m2 hC hbW hwW => ?_) (fun W D' hC hbW => ?_) (fun D' hq => ?_) hag
      · refine (put_done (level := a.level) hC.ch hbW (hlow hC hwW) hc hage).mono fun e w' ⟨vv, h2, h3, h4, h5⟩ => ?_
        rw [hm] at hD
        rw [e1, hm] at h2 h3
        have hvd : victD D true (m : Int) = vd0 := by unfold victD; rw [if_pos rfl, hD]; rfl
        rw [hvd] at h2
        have hdat := (hC.ch.dat _ _ _ hD).far h5
        obtain ⟨A5, n5, m5, e5⟩ := hdat.sl
        subst e5
        exact ⟨A5, n5, m5, _, h2, hdat.byt, fun _ => hC.dataOff hD, ⟨vv, rfl⟩, hC.prog h3 (h5.mono fun j hj => .inl (PrW.of2 hj)) (hnew h4), h5.mono fun j hj => .inl (PrW.of2 hj)⟩
      · rw [hm] at hD hvr
        have hl0 : Dr m = l0 := by have := he.eq _ _ _ hD; rwa [Int.toNat_natCast] at this
        rw [hn] at e1 hm hts ht h1 ⊢
        refine (rch_put_gone hC.rc hI h1 hlen ht hts hage hbW (fun j hj e => hdv (by omega) j hj (.inr e)) e1 hm (by omega)).mono fun e w' ⟨vd, h2, h3, h4, h5, h6⟩ => ?_
        rw [e1, if_pos rfl, hm] at h2 h3
        rw [Int.toNat_natCast, hl0] at h3
        obtain ⟨A2, c2, e5⟩ := h3.shape
        exact ⟨A2, _, c2, by rw [h2, e5], by rw [← e5]; exact h3.byt, h5, h6⟩
      · obtain ⟨vv, rfl⟩ := hq
        exact hck fun y hy => ((e4 y).1 hy).imp id fun h => h.1
  · refine do_put (v := 0) (cd := putCode c k a.b a.data.length a.level) (g := false) (l := []) (s' := s) (Dr' := Dr) (Q := fun D' => D' = D) h hk1 hby hdv hl (fun W A m m' hC hbW hwW => ?_) (fun W D' hC hbW => ?_) (fun D' hq => hq ▸ he) (Nat.le_succ _)
    · exact (put_refused hC.ch hbW a.level hc).mono fun e w' ⟨h2, h3⟩ => ⟨none, 0, 0, D, h2, (RByt.nil _).byt, fun h => absurd h (by decide), rfl, hC.keep h3, h3.mono fun _ h => h.elim⟩
    · exact (rput_no hC.rc hI hbW hc).mono fun e w' ⟨h2, h3⟩ => ⟨none, 0, 0, h2, (RByt.nil _).byt, hC.rc.keep h3, h3.mono fun _ h => h.elim⟩
theorem do_set_any {K : OKind} {i : K.ι} {o : RefO K c k} {s : K.σ} (h : Cj i cb mb hv o r s s D Dr w) (he : Ck (K := K) c s D Dr) (hk1 : a.kind = 2) (hby : Byt w dv a.data) (hdv : 0 < a.data.length → ∀ j, ownB dv j → ¬ CjW i cb mb o r j) :
    Calls Tryz.prog 23 #[.pointer (some ⟨cb, 0, none⟩), .pointer (some ⟨r.cb, 0, none⟩), .agg (actC a dv)] w (DoP i cb mb hv o r s w) := by
  have hI := h.inv
  cases hD : D a.b with
  | none =>
    refine do_set (t := false) (Dr' := Dr) (Q := fun D' => D' = D) h hk1 hby hdv (fun W hC hbW => ?_) (fun W D' hC hbW => ?_) (fun D' hq => hq ▸ he)
    · exact (cch_set_no hC.ch hD hbW).mono fun e w' ⟨h2, h3⟩ => ⟨h2, D, rfl, hC.keep h3, h3.mono fun _ h => h.elim⟩
    · exact (rch_set_no hC.rc hI (h.ch.out_ hD) hbW).mono fun e w' ⟨h2, h3⟩ => ⟨h2, hC.rc.keep h3, h3.mono fun _ h => h.elim⟩
  | some p =>
    obtain ⟨l0, v0⟩ := p
    have hmem := h.ch.in_ hD
    have hrg := he.rg _ hmem
    have hp2 := h.ch.right.p2
    obtain ⟨n, hn⟩ := Int.eq_ofNat_of_zero_le hrg.1
    by_cases hl : (a.data.length : Int) = c.f 3
    · refine do_set (t := true) (Dr' := updN Dr n a.data) (Q := fun D' => ∃ vv, D' = updI D a.b (some (a.data, vv))) h hk1 hby hdv (fun W hC hbW => ?_) (fun W D' hC hbW => ?_) (fun D' hq => ?_)
      · refine (cch_set_in hC.ch hD hbW hl).mono fun e w' ⟨vv, h2, h3, h4, h5⟩ => ⟨h2, _, ⟨vv, rfl⟩, hC.prog h3 (h5.mono fun j hj => .inl (.inr (.inr hj))) fun b l u hb => ?_, h5.mono fun j hj => .inl (.inr (.inr hj))⟩
        unfold updI at hb
        split at hb
        · injection hb with hb
          injection hb with _ hb
          exact .inr (hb ▸ h4)
        · exact .inl hb
      · rw [hn] at hmem ⊢
        exact (rch_set_in hC.rc hI hmem (by omega) hbW hl).mono fun e w' ⟨h2, h3, h4⟩ => ⟨h2, h3, h4⟩
      · obtain ⟨vv, rfl⟩ := hq
        refine ⟨fun y l u hy => ?_, he.rg⟩
        unfold updI at hy
        unfold updN
        by_cases e : y = a.b
        · rw [if_pos e] at hy
          injection hy with hy
          injection hy with hy
          rw [if_pos (by omega)]; exact hy
        · rw [if_neg e] at hy
          have h5 := he.rg y (h.ch.in_ hy)
          rw [if_neg (by omega)]
          exact he.eq y l u hy
    · refine do_set (t := false) (Dr' := Dr) (Q := fun D' => D' = D) h hk1 hby hdv (fun W hC hbW => ?_) (fun W D' hC hbW => ?_) (fun D' hq => hq ▸ he)
      · exact (cch_set_len hC.ch hD hbW hl).mono fun e w' ⟨h2, h3⟩ => ⟨h2, D, rfl, hC.keep h3, h3.mono fun _ h => h.elim⟩
      · rw [hn] at hmem ⊢
        exact (rch_set_len hC.rc hI hmem hbW hl).mono fun e w' ⟨h2, h3⟩ => ⟨h2, hC.rc.keep h3, h3.mono fun _ h => h.elim⟩
theorem do_drop_any {K : OKind} {i : K.ι} {o : RefO K c k} {s : K.σ} (h : Cj i cb mb hv o r s s D Dr w) (he : Ck (K := K) c s D Dr) (hk1 : a.kind = 3) :
    Calls Tryz.prog 23 #[.pointer (some ⟨cb, 0, none⟩), .pointer (some ⟨r.cb, 0, none⟩), .agg (actC a dv)] w (DoP i cb mb hv o r s w) := by
  have hI := h.inv
  cases hD : D a.b with
  | none =>
    refine do_drop (t := false) (bv := 0) (l := []) (s' := s) (Q := fun D' => D' = D) h hk1 (fun W hC => ?_) (fun W D' hC => ?_) (fun D' hq => hq ▸ he) (Nat.le_succ _)
    · exact (cch_drop_no hC.ch hD).mono fun e w' ⟨h2, h3⟩ => ⟨none, 0, 0, D, h2, (RByt.nil _).byt, fun h => absurd h (by decide), rfl, hC.keep h3, h3.mono fun _ h => h.elim⟩
    · exact (rch_drop_no hC.rc hI (h.ch.out_ hD)).mono fun e w' ⟨h2, h3⟩ => ⟨none, 0, 0, h2, (RByt.nil _).byt, hC.rc.keep h3, h3.mono fun _ h => h.elim⟩
  | some p =>
    obtain ⟨l0, v0⟩ := p
    have hmem := h.ch.in_ hD
    have hrg := he.rg _ hmem
    have hp2 := h.ch.right.p2
    obtain ⟨n, hn⟩ := Int.eq_ofNat_of_zero_le hrg.1
    have hl0 : Dr n = l0 := by have := he.eq _ _ _ hD; rwa [hn, Int.toNat_natCast] at this
    refine do_drop (t := true) (bv := a.b) (l := l0) (s' := K.sp.rem s a.b) (Q := fun D' => D' = updI D a.b none) h hk1 (fun W hC => ?_) (fun W D' hC => ?_) (fun D' hq => ?_) (Nat.le_trans ((K.oc i).ageR s a.b) (Nat.le_succ _))
    · refine (cch_drop_in hC.ch hD).mono fun e w' ⟨h2, h3, h4, h5⟩ => ?_
      obtain ⟨A5, n5, m5, e5⟩ := h4.sl
      subst e5
      refine ⟨A5, n5, m5, _, h2, h4.byt, fun _ => hC.dataOff hD, rfl, hC.prog h3 (h5.mono fun j hj => .inl (PrW.of2 hj)) fun b l u hb => ?_, h5.mono fun j hj => .inl (PrW.of2 hj)⟩
      unfold updI at hb
      split at hb
      · cases hb
      · exact .inl hb
    · rw [hn] at hmem ⊢
      refine (rch_drop_in hC.rc hI hmem (by omega)).mono fun e w' ⟨v, h2, h3, h4, h5, h6⟩ => ?_
      rw [hl0] at h3
      obtain ⟨A2, c2, e5⟩ := h3.shape
      exact ⟨A2, _, c2, by rw [h2, e5], by rw [← e5]; exact h3.byt, h5, h6⟩
    · subst hq
      refine ⟨fun y l u hy => ?_, fun y hy => he.rg y (((K.oc i).remL h.ch.ord hmem y).1 hy).1⟩
      unfold updI at hy
      split at hy
      · cases hy
      · exact he.eq y l u hy
theorem do_any (h : Cj i cb mb hv o r s s D Dr w) (he : Ck (K := kOf c k hP hk) c s D Dr) (hby : Byt w dv a.data) (hdv : 0 < a.data.length → ∀ j, ownB dv j → ¬ CjW i cb mb o r j) (hl : a.data.length ≤ 1000000) (hage : (kOf c k hP hk).sp.age s < maxAge) :
    Calls Tryz.prog 23 #[.pointer (some ⟨cb, 0, none⟩), .pointer (some ⟨r.cb, 0, none⟩), .agg (actC a dv)] w (DoP i cb mb hv o r s w) := by
  by_cases h0 : a.kind = 0
  · cases hD : D a.b with
    | none => exact do_use_no h he h0 hD
    | some p =>
      obtain ⟨l0, v0⟩ := p
      exact do_use_in h he h0 hD hage
  by_cases h1 : a.kind = 1
  · exact do_put_any h he h1 hby hdv hl hage
  by_cases h2 : a.kind = 2
  · exact do_set_any h he h2 hby hdv
  by_cases h3 : a.kind = 3
  · exact do_drop_any h he h3
  exact do_other h he ⟨h0, h1, h2, h3⟩
end
end Go.Proofs.YtodephhlhdbeoaaGreat
