/- CacheNil, walked. -/
import Derived.Test.YtdjjlglmhbmnlaaCnl
namespace Go.Proofs.Ytdjjlglmhbmnlaa
open Go.RowKit Go.ChangeShapes Go.WideShapes
set_option linter.unusedVariables false
set_option linter.unusedSimpArgs false
section
set_option maxHeartbeats 4000000
set_option maxRecDepth 100000
theorem cacheNil_walk (b : Int) (A : Option Addr) (n c : Nat) (w : World) : Calls Try.prog 5 #[.agg #[.int .i64 b, .slice A n c]] w fun e w' => e = .returned (.bool true) ∧ Only Non w w' := by
  have HB := Lib.hid (Box.fresh w 36 #[.int .i64 b, .slice A n c])
  have HO := Lib.hid ((Only.refl Non w).alloc (.cells #[.int .i64 b, .slice A n c] 36))
  go_enter Try.func5, Try.ntmps5
  go_upto_region 1 with fail
  change Code.wp _ _ _ _ (w.alloc (.cells #[.int .i64 b, .slice A n c] 36))
  generalize w.alloc (.cells #[.int .i64 b, .slice A n c] 36) = W1 at *
  generalize w.heap.size = fb at *
  go_wp2_with fail
  refine (wakes_any W1).mono ?_
  rintro e W2 ⟨rfl, ho2⟩
  have HB2 := Lib.hid (ho2.box HB.out id)
  have HO2 := Lib.hid (HO.out.trans ho2)
  clear ho2 HB HO
  go_upto_region 5 with (go_at_call 16; refine (nil_clear _).mono ?_; rintro e W3 ⟨rfl, rfl⟩)
  have k0 : W2.cell? ⟨fb, 0, none⟩ = some (.int .i64 b) := HB2.out.cellAt rfl
  have k1 : W2.cell? ⟨fb, 1, none⟩ = some (.slice A n c) := HB2.out.cellAt rfl
  go_wp2_with fail
  refine (nil_put b 0 A n c W2).mono ?_
  rintro e W3 ⟨rfl, ho3⟩
  have HB3 := Lib.hid (ho3.box HB2.out id)
  have HO3 := Lib.hid (HO2.out.trans ho3)
  clear ho3 HB2 HO2 k0 k1
  go_upto_region 6 with (refine wpList_store_row rfl 36 _ _ rfl W3.heap.size zF rfl rfl 36 _ (Box.fresh W3 36 zF) (by kernel_rfl) rfl (by simp [zF, Value.oneCell']) ?_)
  have ho4 : Only Non W3 ((W3.alloc (.cells zF 36)).setRow W3.heap.size zF) := ((Only.refl Non W3).alloc _).setRow' (.inr (Nat.le_refl _)) _
  change Code.wp _ _ _ _ ((W3.alloc (.cells zF 36)).setRow W3.heap.size zF)
  have HB4 := Lib.hid (ho4.box HB3.out id)
  have HO4 := Lib.hid (HO3.out.trans ho4)
  clear ho4 HB3 HO3
  generalize (W3.alloc (.cells zF 36)).setRow W3.heap.size zF = W4 at *
  have k0 : W4.cell? ⟨fb, 0, none⟩ = some (.int .i64 b) := HB4.out.cellAt rfl
  go_wp2_with (go_at_call 15; refine (nil_use b _).mono ?_; rintro e W5 ⟨rfl, rfl⟩)
  refine (nil_drop b W4).mono ?_
  rintro e W5 ⟨rfl, ho5⟩
  have HB5 := Lib.hid (ho5.box HB4.out id)
  have HO5 := Lib.hid (HO4.out.trans ho5)
  clear ho5 HB4 HO4 k0
  go_upto_region 8 with (refine wpList_store_row rfl 36 _ _ rfl W5.heap.size zF rfl rfl 36 _ (Box.fresh W5 36 zF) (by kernel_rfl) rfl (by simp [zF, Value.oneCell']) ?_)
  have ho6 : Only Non W5 ((W5.alloc (.cells zF 36)).setRow W5.heap.size zF) := ((Only.refl Non W5).alloc _).setRow' (.inr (Nat.le_refl _)) _
  change Code.wp _ _ _ _ ((W5.alloc (.cells zF 36)).setRow W5.heap.size zF)
  have HB6 := Lib.hid (ho6.box HB5.out id)
  have HO6 := Lib.hid (HO5.out.trans ho6)
  clear ho6 HB5 HO5
  generalize (W5.alloc (.cells zF 36)).setRow W5.heap.size zF = W6 at *
  have k0 : W6.cell? ⟨fb, 0, none⟩ = some (.int .i64 b) := HB6.out.cellAt rfl
  have k1 : W6.cell? ⟨fb, 1, none⟩ = some (.slice A n c) := HB6.out.cellAt rfl
  go_wp2_with fail
  refine (nil_set b A n c W6).mono ?_
  rintro e W7 ⟨rfl, ho7⟩
  have k0 : W7.cell? ⟨fb, 0, none⟩ = some (.int .i64 b) := ho7.cell k0 id
  have HO7 := Lib.hid (HO6.out.trans ho7)
  clear ho7 HB6 HO6 k1
  go_wp2_with (first | (go_at_call 12; refine (nil_has b _).mono ?_; rintro e W8 ⟨rfl, rfl⟩) | (go_at_call 18; refine (nil_takes b 1 _).mono ?_; rintro e W8 ⟨rfl, rfl⟩) | (go_at_call 14; refine (nil_all _).mono ?_; rintro e W8 ⟨rfl, rfl⟩) | (go_at_call 10; refine (nil_len _).mono ?_; rintro e W8 ⟨rfl, rfl⟩))
  go_ret
  exact ⟨rfl, HO7.out⟩
end
end Go.Proofs.Ytdjjlglmhbmnlaa
