/- gradineref04.Same: are messages alike? -/
import Derived.Test.YtcphifphidcbaaaGreatSmi
import Derived.Test.YtcphifphidcbaaaGreatByt
import Derived.Test.YtcphifphidcbaaaGreatMsgC
import Derived.Deep.CutRange
namespace Go.Proofs.YtcphifphidcbaaaGreat
open Go.RowKit Go.ChangeShapes Go.WideShapes
set_option linter.unusedVariables false
set_option linter.unusedSimpArgs false
def numsOf (m : MsgA) : List Int := [m.f 1, m.f 2, m.f 3, m.f 4, m.f 5, m.f 6, m.f 7, m.f 8]
def msgSame (m m' : MsgA) (l l' : List Int) : Bool := decide (m.f 0 = m'.f 0) && (decide (numsOf m = numsOf m') && (decide (m.g = m'.g) && decide (l = l')))
section
set_option maxHeartbeats 4000000
set_option maxRecDepth 100000
theorem nums_any (m : MsgA) (A : Option Addr) (n c : Nat) (w : World) : Calls Tryz.prog 85 #[.agg (msgC m (.slice A n c))] w fun e w' => ∃ g, e = .returned (.slice (some ⟨g, 0, none⟩) 8 8) ∧ IntsAt w' (.slice (some ⟨g, 0, none⟩) 8 8) (numsOf m) ∧ Only Non w w' := by
  have HB := Lib.hid (Box.fresh w 25 (msgC m (.slice A n c)))
  have HO := Lib.hid ((Only.refl Non w).alloc (.cells (msgC m (.slice A n c)) 25))
  go_enter Tryz.func85, Tryz.ntmps85
  go_upto_region 1 with fail
  change Code.wp _ _ _ _ (w.alloc (.cells (msgC m (.slice A n c)) 25))
  generalize w.alloc (.cells (msgC m (.slice A n c)) 25) = W at *
  generalize w.heap.size = b at *
  have x1 : W.cell? ⟨b, 1, none⟩ = some (.int .i64 (m.f 1)) := HB.out.cellAt rfl
  have x2 : W.cell? ⟨b, 2, none⟩ = some (.int .i64 (m.f 2)) := HB.out.cellAt rfl
  have x3 : W.cell? ⟨b, 3, none⟩ = some (.int .i64 (m.f 3)) := HB.out.cellAt rfl
  have x4 : W.cell? ⟨b, 4, none⟩ = some (.int .i64 (m.f 4)) := HB.out.cellAt rfl
  have x5 : W.cell? ⟨b, 5, none⟩ = some (.int .i64 (m.f 5)) := HB.out.cellAt rfl
  have x6 : W.cell? ⟨b, 6, none⟩ = some (.int .i64 (m.f 6)) := HB.out.cellAt rfl
  have x7 : W.cell? ⟨b, 7, none⟩ = some (.int .i64 (m.f 7)) := HB.out.cellAt rfl
  have x8 : W.cell? ⟨b, 8, none⟩ = some (.int .i64 (m.f 8)) := HB.out.cellAt rfl
  clear HB
  go_wp2
  go_ret
  have h := Box.fresh W 3 #[.int .i64 (m.f 1), .int .i64 (m.f 2), .int .i64 (m.f 3), .int .i64 (m.f 4), .int .i64 (m.f 5), .int .i64 (m.f 6), .int .i64 (m.f 7), .int .i64 (m.f 8)]
  refine ⟨W.heap.size, rfl, ⟨some ⟨W.heap.size, 0, none⟩, 8, rfl, Nat.le_refl _, by decide, fun i hi => ⟨W.heap.size, 0, rfl, ?_⟩⟩, HO.out.alloc _⟩
  have hi : i < 8 := hi
  rw [Nat.zero_add]
  rcases (show i = 0 ∨ i = 1 ∨ i = 2 ∨ i = 3 ∨ i = 4 ∨ i = 5 ∨ i = 6 ∨ i = 7 by omega) with rfl | rfl | rfl | rfl | rfl | rfl | rfl | rfl <;> exact h.cellAt rfl
theorem msame_any (m m' : MsgA) (A B : Option Addr) (n c n' c' : Nat) (l l' : List Int) (w : World) (ha : Byt w (.slice A n c) l) (hb : Byt w (.slice B n' c') l') :
    Calls Tryz.prog 52 #[.agg (msgC m (.slice A n c)), .agg (msgC m' (.slice B n' c'))] w fun e w' => e = .returned (.bool (msgSame m m' l l')) ∧ Only Non w w' := by
  have HY := Lib.hid ha
  have HZ := Lib.hid hb
  clear ha hb
  have HB1 := Lib.hid (Box.fresh w 25 (msgC m (.slice A n c)))
  have al1 := (Only.refl Non w).alloc (.cells (msgC m (.slice A n c)) 25)
  have HB2 := Lib.hid (Box.fresh (w.alloc (.cells (msgC m (.slice A n c)) 25)) 25 (msgC m' (.slice B n' c')))
  have al2 := (Only.refl Non (w.alloc (.cells (msgC m (.slice A n c)) 25))).alloc (.cells (msgC m' (.slice B n' c')) 25)
  rw [show (w.alloc (.cells (msgC m (.slice A n c)) 25)).heap.size = w.heap.size + 1 by simp] at HB2
  have HA2 := Lib.hid (al2.box HB1.out id)
  have HO := Lib.hid (al1.trans al2)
  clear al1 al2 HB1
  go_enter Tryz.func52, Tryz.ntmps52
  go_upto_region 1 with fail
  change Code.wp _ _ _ _ ((w.alloc (.cells (msgC m (.slice A n c)) 25)).alloc (.cells (msgC m' (.slice B n' c')) 25))
  generalize (w.alloc (.cells (msgC m (.slice A n c)) 25)).alloc (.cells (msgC m' (.slice B n' c')) 25) = W at *
  have HY1 := Lib.hid (HY.out.only HO.out fun _ _ => id)
  have HZ1 := Lib.hid (HZ.out.only HO.out fun _ _ => id)
  generalize w.heap.size = b at *
  clear HY HZ
  go_upto_region 2 with (first | (refine wpList_load_row rfl 25 _ rfl b rfl 25 (msgC m (.slice A n c)) (0, 0) _ HA2.out Tryz.underlying25 rfl (by kernel_rfl) ?_) | (go_at_call 85; refine (nums_any m A n c _).mono ?_; rintro e W1 ⟨g1, rfl, hi1, ho1⟩))
  have HI1 := Lib.hid hi1
  have HA3 := Lib.hid (ho1.box HA2.out id)
  have HB3 := Lib.hid (ho1.box HB2.out id)
  have HO1 := Lib.hid (HO.out.trans ho1)
  have HY2 := Lib.hid (HY1.out.only ho1 fun _ _ => id)
  have HZ2 := Lib.hid (HZ1.out.only ho1 fun _ _ => id)
  clear hi1 ho1 HA2 HB2 HO HY1 HZ1
  go_upto_region 3 with (first | (refine wpList_load_row rfl 25 _ rfl (b + 1) rfl 25 (msgC m' (.slice B n' c')) (0, 0) _ HB3.out Tryz.underlying25 rfl (by kernel_rfl) ?_) | (go_at_call 85; refine (nums_any m' B n' c' _).mono ?_; rintro e W2 ⟨g2, rfl, hi2, ho2⟩))
  have HS := Lib.hid (sameInts_call _ _ 8 8 8 8 (numsOf m) (numsOf m') W2 (HI1.out.keep ho2 fun _ _ _ _ _ => id) hi2 (by decide) (by decide))
  have x0 : W2.cell? ⟨b, 0, none⟩ = some (.int .i64 (m.f 0)) := (ho2.box HA3.out id).cellAt rfl
  have x9 : W2.cell? ⟨b, 9, none⟩ = some (.bool m.g) := (ho2.box HA3.out id).cellAt rfl
  have x10 : W2.cell? ⟨b, 10, none⟩ = some (.slice A n c) := (ho2.box HA3.out id).cellAt rfl
  have y0 : W2.cell? ⟨b + 1, 0, none⟩ = some (.int .i64 (m'.f 0)) := (ho2.box HB3.out id).cellAt rfl
  have y9 : W2.cell? ⟨b + 1, 9, none⟩ = some (.bool m'.g) := (ho2.box HB3.out id).cellAt rfl
  have y10 : W2.cell? ⟨b + 1, 10, none⟩ = some (.slice B n' c') := (ho2.box HB3.out id).cellAt rfl
  have HO2 := Lib.hid (HO1.out.trans ho2)
  have HY3 := Lib.hid (HY2.out.only ho2 fun _ _ => id)
  have HZ3 := Lib.hid (HZ2.out.only ho2 fun _ _ => id)
  have HM := Lib.hid (show msgSame m m' l l' = (decide (m.f 0 = m'.f 0) && (decide (numsOf m = numsOf m') && (decide (m.g = m'.g) && decide (l = l')))) from rfl)
  clear hi2 ho2 HA3 HB3 HO1 HY2 HZ2 HI1
  generalize hk1 : decide (numsOf m = numsOf m') = k1 at *
  clear hk1
  generalize m.f 0 = f0 at *
  generalize m'.f 0 = f0' at *
  generalize m.g = gm at *
  generalize m'.g = gm' at *
  by_cases h0 : f0 = f0'
  · subst h0
    cases k1 with
    | true =>
      by_cases hg : gm = gm'
      · subst hg
        have hgb : (gm == gm) = true := by simp
        have HE := Lib.hid (show msgSame m m' l l' = decide (l = l') by rw [HM.out]; simp)
        go_wp2_with (first | (go_at_call 86; refine HS.out.mono ?_; rintro e W3 ⟨rfl, q3, rfl⟩) | (go_at_call 87; refine (same_any _ _ l l' _ (HY3.out.only ((Only.refl Non _).drewN q3) fun _ _ => id) (HZ3.out.only ((Only.refl Non _).drewN q3) fun _ _ => id)).mono ?_; rintro e W4 ⟨rfl, q4, rfl⟩))
        go_ret
        exact ⟨by rw [HE.out]; rfl, HO2.out.drewN _⟩
      · have hgb : (gm == gm') = false := by simpa using hg
        have HE := Lib.hid (show msgSame m m' l l' = false by rw [HM.out]; simp [hg])
        clear hg
        go_wp2_with (first | (go_at_call 86; refine HS.out.mono ?_; rintro e W3 ⟨rfl, q3, rfl⟩) | (go_at_call 87; refine (same_any _ _ l l' _ (HY3.out.only ((Only.refl Non _).drewN q3) fun _ _ => id) (HZ3.out.only ((Only.refl Non _).drewN q3) fun _ _ => id)).mono ?_; rintro e W4 ⟨rfl, q4, rfl⟩))
        go_ret
        exact ⟨by rw [HE.out]; rfl, HO2.out.drewN _⟩
    | false =>
      have HE := Lib.hid (show msgSame m m' l l' = false by rw [HM.out]; simp)
      go_wp2_with (first | (go_at_call 86; refine HS.out.mono ?_; rintro e W3 ⟨rfl, q3, rfl⟩) | (go_at_call 87; refine (same_any _ _ l l' _ (HY3.out.only ((Only.refl Non _).drewN q3) fun _ _ => id) (HZ3.out.only ((Only.refl Non _).drewN q3) fun _ _ => id)).mono ?_; rintro e W4 ⟨rfl, q4, rfl⟩))
      go_ret
      exact ⟨by rw [HE.out]; rfl, HO2.out.drewN _⟩
  · have hfb : (f0 == f0') = false := by simpa using h0
    have HE := Lib.hid (show msgSame m m' l l' = false by rw [HM.out]; simp [h0])
    clear h0
    go_wp2_with (first | (go_at_call 86; refine HS.out.mono ?_; rintro e W3 ⟨rfl, q3, rfl⟩) | (go_at_call 87; refine (same_any _ _ l l' _ (HY3.out.only ((Only.refl Non _).drewN q3) fun _ _ => id) (HZ3.out.only ((Only.refl Non _).drewN q3) fun _ _ => id)).mono ?_; rintro e W4 ⟨rfl, q4, rfl⟩))
    go_ret
    exact ⟨by rw [HE.out]; rfl, HO2.out⟩
end
end Go.Proofs.YtcphifphidcbaaaGreat
