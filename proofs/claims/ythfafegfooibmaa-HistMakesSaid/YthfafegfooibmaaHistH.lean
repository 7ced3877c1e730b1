/- The examples hold. -/
import Derived.Test.YthfafegfooibmaaHistG
namespace Go.Proofs.Ythfafegfooibmaa
open Go.RowKit Go.ChangeShapes Go.WideShapes
set_option linter.unusedVariables false
set_option linter.unusedSimpArgs false
def wkW : DoneR := ⟨0, 0, 0, true, 0, [1], 0, 1, 5, false⟩
def wkA : DoneR := ⟨0, 0, 0, false, 0, [0], 0, 2, 3, false⟩
def wkB : DoneR := ⟨0, 0, 0, false, 0, [0], 0, 6, 7, false⟩
theorem wk_yes : linD [wkW, wkA] 1 = (true, 0) := by decide +kernel
theorem wk_no : linD [wkW, wkB] 1 = (false, 0) := by decide +kernel
theorem wk_call (W1 : World) (db : Nat) (hD : Box W1 db 5 #[.int .u8 1]) (o2 : DoneR) (h2 : o2.data = [0]) (cs : Array Value) (hcs : cs.toList = (doneC wkW (.slice (some ⟨db, 0, none⟩) 1 1)).toList ++ (doneC o2 (.slice (some ⟨W1.heap.size, 0, none⟩) 1 1)).toList) :
    Calls Try.prog 9 #[.slice (some ⟨W1.heap.size + 1, 0, none⟩) 2 2, .int .i64 1] ((W1.alloc (.cells #[.int .u8 0] 5)).alloc (.cells cs 33)) fun e w' =>
      e = .returned (.tuple #[.bool (linD [wkW, o2] 1).1, .int .i64 (linD [wkW, o2] 1).2]) ∧ Only Non W1 w' := by
  have ho : Only Non W1 ((W1.alloc (.cells #[.int .u8 0] 5)).alloc (.cells cs 33)) := ((Only.refl Non W1).alloc _).alloc _
  have hb : Box ((W1.alloc (.cells #[.int .u8 0] 5)).alloc (.cells cs 33)) (W1.heap.size + 1) 33 cs := by
    have := Box.fresh (W1.alloc (.cells #[.int .u8 0] 5)) 33 cs
    rwa [show (W1.alloc (.cells #[.int .u8 0] 5)).heap.size = W1.heap.size + 1 from World.size_alloc _ _] at this
  have hd1 : Box ((W1.alloc (.cells #[.int .u8 0] 5)).alloc (.cells cs 33)) db 5 #[.int .u8 1] := ho.box hD id
  have hd2 : Box ((W1.alloc (.cells #[.int .u8 0] 5)).alloc (.cells cs 33)) W1.heap.size 5 #[.int .u8 0] := (Box.fresh W1 5 #[.int .u8 0]).alloc _
  have one : ∀ {w : World} {g : Nat} {x : Int}, Box w g 5 #[.int .u8 x] → Byt w (.slice (some ⟨g, 0, none⟩) 1 1) [x] := fun {w g x} h => ⟨_, 1, rfl, Nat.le_refl _, by simp, fun j u hj => ⟨g, 0, rfl, by
    rw [Nat.zero_add]
    exact h.cellAt (by simpa using hj)⟩⟩
  have hda : DonesAt ((W1.alloc (.cells #[.int .u8 0] 5)).alloc (.cells cs 33)) (some ⟨W1.heap.size + 1, 0, none⟩) 2 2 [wkW, o2] := by
    refine ⟨rfl, Nat.le_refl _, by unfold maxLen; omega, fun i hi => ?_⟩
    have hlt := hb.lt
    match i, hi with
    | 0, _ =>
      refine ⟨_, 0, some ⟨db, 0, none⟩, 1, rfl, hlt, fun j v hv => ?_, one hd1⟩
      refine hb.cellAt ?_
      rw [← Array.getElem?_toList, hcs]
      have hj := (Array.getElem?_eq_some_iff.1 hv).1
      rw [show 0 + 0 * 10 + j = j by omega, List.getElem?_append_left (by simpa [doneC] using hj), Array.getElem?_toList]
      exact hv
    | 1, _ =>
      refine ⟨_, 0, some ⟨W1.heap.size, 0, none⟩, 1, rfl, hlt, fun j v hv => ?_, ?_⟩
      · refine hb.cellAt ?_
        rw [← Array.getElem?_toList, hcs]
        rw [List.getElem?_append_right (by simp [doneC])]
        have e : 0 + 1 * 10 + j - (doneC wkW (.slice (some ⟨db, 0, none⟩) 1 1)).toList.length = j := by simp [doneC]
        rw [e]
        have hv : (doneC o2 (.slice (some ⟨W1.heap.size, 0, none⟩) o2.data.length 1))[j]? = some v := hv
        rw [h2] at hv
        simpa using hv
      · show Byt _ (.slice _ o2.data.length 1) o2.data
        rw [h2]
        exact one hd2
  refine (linear_any (some ⟨W1.heap.size + 1, 0, none⟩) 2 [wkW, o2] 1 _ hda (by simp) (by decide) (by decide)).mono ?_
  rintro e w' ⟨he, h⟩
  exact ⟨he, ho.trans h⟩
section
set_option maxHeartbeats 4000000
set_option maxRecDepth 100000
theorem wakes_any (w : World) : Calls Try.prog 7 #[] w (Rb true w) := by
  go_enter Try.func7, Try.ntmps7
  go_upto_region 2 with (refine wpList_store_row rfl 33 _ _ rfl (w.heap.size + 1) (doneC wkW (.slice (some ⟨w.heap.size, 0, none⟩) 1 1)) rfl rfl 33 _ (show Box ((w.alloc (.cells #[.int .u8 1] 5)).alloc (.cells zD 33)) (w.heap.size + 1) 33 zD from by
      have := Box.fresh (w.alloc (.cells #[.int .u8 1] 5)) 33 zD
      rwa [show (w.alloc (.cells #[.int .u8 1] 5)).heap.size = w.heap.size + 1 from World.size_alloc _ _] at this) (by kernel_rfl) rfl (done_one wkW _ 1 1) ?_)
  have ho1 : Only Non w (((w.alloc (.cells #[.int .u8 1] 5)).alloc (.cells zD 33)).setRow (w.heap.size + 1) (doneC wkW (.slice (some ⟨w.heap.size, 0, none⟩) 1 1))) := ((((Only.refl Non w).alloc _).alloc _).setRow' (.inr (Nat.le_succ _)) _)
  have HX1 := Lib.hid (show Box (((w.alloc (.cells #[.int .u8 1] 5)).alloc (.cells zD 33)).setRow (w.heap.size + 1) (doneC wkW (.slice (some ⟨w.heap.size, 0, none⟩) 1 1))) (w.heap.size + 1) 33 (doneC wkW (.slice (some ⟨w.heap.size, 0, none⟩) 1 1)) from by
    have := Box.fresh (w.alloc (.cells #[.int .u8 1] 5)) 33 zD
    rw [show (w.alloc (.cells #[.int .u8 1] 5)).heap.size = w.heap.size + 1 from World.size_alloc _ _] at this
    exact this.setRow' _)
  have hd1 : Box (((w.alloc (.cells #[.int .u8 1] 5)).alloc (.cells zD 33)).setRow (w.heap.size + 1) (doneC wkW (.slice (some ⟨w.heap.size, 0, none⟩) 1 1))) w.heap.size 5 #[.int .u8 1] := by
    have h0 := Box.fresh w 5 #[.int .u8 1]
    have h1 := h0.alloc (.cells zD 33)
    exact (show Only (Just (w.heap.size + 1)) ((w.alloc (.cells #[.int .u8 1] 5)).alloc (.cells zD 33)) (((w.alloc (.cells #[.int .u8 1] 5)).alloc (.cells zD 33)).setRow (w.heap.size + 1) (doneC wkW (.slice (some ⟨w.heap.size, 0, none⟩) 1 1))) from (Only.refl (Just (w.heap.size + 1)) _).setRow' (g := w.heap.size + 1) (.inl rfl) _).box h1 (fun e => absurd (show w.heap.size = w.heap.size + 1 from e) (by omega))
  change Code.wp _ _ _ _ (((w.alloc (.cells #[.int .u8 1] 5)).alloc (.cells zD 33)).setRow (w.heap.size + 1) (doneC wkW (.slice (some ⟨w.heap.size, 0, none⟩) 1 1)))
  generalize ((w.alloc (.cells #[.int .u8 1] 5)).alloc (.cells zD 33)).setRow (w.heap.size + 1) (doneC wkW (.slice (some ⟨w.heap.size, 0, none⟩) 1 1)) = W1 at *
  have HO1 := Lib.hid ho1
  have HD1 := Lib.hid hd1
  clear ho1 hd1
  generalize w.heap.size + 1 = xb at *
  generalize w.heap.size = db at *
  obtain ⟨d0, d1, d2, d3, d4, d5, d6, d7, d8, d9⟩ := HX1.out.ten
  simp only [wkW] at d0 d1 d2 d3 d4 d5 d6 d7 d8 d9
  go_wp2_with fail
  refine (wk_call W1 db HD1.out wkA rfl _ rfl).mono ?_
  rintro e W2 ⟨he, ho2⟩
  rw [wk_yes] at he
  subst he
  have HX2 := Lib.hid (ho2.box HX1.out id)
  have HD2 := Lib.hid (ho2.box HD1.out id)
  have HO2 := Lib.hid (HO1.out.trans ho2)
  clear ho2 d0 d1 d2 d3 d4 d5 d6 d7 d8 d9
  obtain ⟨d0, d1, d2, d3, d4, d5, d6, d7, d8, d9⟩ := HX2.out.ten
  simp only [wkW] at d0 d1 d2 d3 d4 d5 d6 d7 d8 d9
  go_wp2_with fail
  refine (wk_call W2 db HD2.out wkB rfl _ rfl).mono ?_
  rintro e W3 ⟨he, ho3⟩
  rw [wk_no] at he
  subst he
  have HO3 := Lib.hid (HO2.out.trans ho3)
  clear ho3 d0 d1 d2 d3 d4 d5 d6 d7 d8 d9
  go_wp2
  go_ret
  exact ⟨rfl, HO3.out⟩
end
end Go.Proofs.Ythfafegfooibmaa
