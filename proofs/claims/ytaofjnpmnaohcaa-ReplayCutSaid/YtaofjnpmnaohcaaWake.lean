/- gradinelaw25.least, wakes. -/
import Derived.Test.YtaofjnpmnaohcaaSameB
namespace Go.Proofs.Ytaofjnpmnaohcaa
open Go.RowKit
set_option linter.unusedVariables false
set_option linter.unusedSimpArgs false
def lc : CfgA := ⟨fun i => [1, 1, 4, 1, 2, 0, 1, 1, 1, 1, 1, 1, 1, 1, 0, 1].getD i 0, []⟩
def l0 : List ActR := [⟨10, 0, 0, 0, []⟩]
theorem lc_ok : CfgP lc where
  p0 := by decide
  p1 := by decide
  p2 := by decide
  p3 := by decide
  p4 := by decide
  p5 := by decide
  pp := by decide
  pl := by decide
  pc := by decide
  p12 := by decide
  p13 := by decide
  p14 := by decide
  p15 := by decide
  ph := .inr rfl
  hs := ⟨fun i hi => absurd hi (Nat.not_lt_zero _), fun i j _ hj => absurd hj (Nat.not_lt_zero _), by decide⟩
theorem l0_ok : ScriptP lc l0 := ⟨lc_ok, by decide, fun i hi => by
  obtain rfl : i = 0 := by have : i < 1 := hi; omega
  exact ⟨by decide, by decide, by decide, by decide, by decide⟩⟩
theorem l0_bytes : scriptB lc l0 = [17, 1, 1, 4, 1, 2, 0, 1, 1, 1, 1, 1, 1, 1, 1, 0, 1, 0, 1, 10, 1, 1, 1, 0] := by decide +kernel
section
set_option maxHeartbeats 4000000
set_option maxRecDepth 100000
theorem least_any (w : World) : Calls Try.prog 13 #[] w fun e w' => e = .returned (.agg (cfgCells lc (.slice none 0 0))) ∧ Only Non w w' := by
  have HB := Lib.hid (Box.fresh w 25 #[.int .i64 0, .int .i64 0, .int .i64 0, .int .i64 0, .int .i64 0, .int .i64 0, .int .i64 0, .int .i64 0, .int .i64 0, .int .i64 0, .int .i64 0, .int .i64 0, .int .i64 0, .int .i64 0, .int .i64 0, .int .i64 0, .slice none 0 0])
  have HO := Lib.hid (show Only Non w (w.alloc (.cells #[.int .i64 0, .int .i64 0, .int .i64 0, .int .i64 0, .int .i64 0, .int .i64 0, .int .i64 0, .int .i64 0, .int .i64 0, .int .i64 0, .int .i64 0, .int .i64 0, .int .i64 0, .int .i64 0, .int .i64 0, .int .i64 0, .slice none 0 0] 25)) from (Only.refl Non w).alloc _)
  go_enter Try.func13, Try.ntmps13
  go_upto_region 1 with fail
  generalize w.alloc (.cells #[.int .i64 0, .int .i64 0, .int .i64 0, .int .i64 0, .int .i64 0, .int .i64 0, .int .i64 0, .int .i64 0, .int .i64 0, .int .i64 0, .int .i64 0, .int .i64 0, .int .i64 0, .int .i64 0, .int .i64 0, .int .i64 0, .slice none 0 0] 25) = W at *
  go_wp2_with (refine wpList_store_row rfl 25 _ _ rfl w.heap.size (cfgCells lc (.slice none 0 0)) rfl rfl 25 _ HB.out (by kernel_rfl) rfl (cfg_one lc none 0 0) ?_)
  (try simp only [Exit.inBlock, Exit.then])
  refine bodyPost_ret (results_cell_row rfl _ _ w.heap.size _ (cfgCells lc (.slice none 0 0)) (0, 0) _ rfl (HB.out.setRow _) Try.underlying25 rfl (by kernel_rfl)) rfl ?_
  exact ⟨rfl, HO.out.setRow (.inr (Nat.le_refl _)) _⟩
theorem acts_l0 (w : World) : ActsAt (w.alloc (.cells #[.int .i64 10, .int .i64 0, .int .i64 0, .int .i64 0, .slice none 0 0] 47)) (some ⟨w.heap.size, 0, none⟩) 1 1 l0 :=
  ⟨rfl, Nat.le_refl _, by decide, fun i hi => by
    obtain rfl : i = 0 := by have : i < 1 := hi; omega
    have hb := Box.fresh w 47 #[.int .i64 10, .int .i64 0, .int .i64 0, .int .i64 0, .slice none 0 0]
    exact ⟨_, 0, none, 0, rfl, hb.lt, hb.cellAt rfl, hb.cellAt rfl, hb.cellAt rfl, hb.cellAt rfl, hb.cellAt rfl, byt_nil _⟩⟩
theorem hb3sub {w : World} {g o c : Nat} (h : Byt w (.slice (some ⟨g, o, none⟩) 24 c) [17, 1, 1, 4, 1, 2, 0, 1, 1, 1, 1, 1, 1, 1, 1, 0, 1, 0, 1, 10, 1, 1, 1, 0]) : Byt w (.slice (some ⟨g, o + 19, none⟩) 5 (c - 19)) [10, 1, 1, 1, 0] :=
  Byt.sub (b := [17, 1, 1, 4, 1, 2, 0, 1, 1, 1, 1, 1, 1, 1, 1, 0, 1, 0, 1, 10, 1, 1, 1, 0]) h (q := 19) (n := 5) (by decide)
theorem wakes25_any (w : World) : Calls Try.prog 5 #[] w fun e w' => e = .returned (.bool true) ∧ Only Non w w' := by
  go_enter Try.func5, Try.ntmps5
  go_wp2_with fail
  refine (least_any w).mono ?_
  rintro e w1 ⟨rfl, ho1⟩
  have Ho1 := Lib.hid ho1
  clear ho1
  have HP := Lib.hid (put25_any none 0 0 lc (some ⟨w1.heap.size, 0, none⟩) 1 1 l0 (w1.alloc (.cells #[.int .i64 10, .int .i64 0, .int .i64 0, .int .i64 0, .slice none 0 0] 47)) ⟨rfl, Nat.le_refl _, Nat.zero_le _, fun i hi => absurd hi (Nat.not_lt_zero _)⟩ (acts_l0 w1))
  have HO2 := Lib.hid (Ho1.out.alloc (.cells #[.int .i64 10, .int .i64 0, .int .i64 0, .int .i64 0, .slice none 0 0] 47))
  go_wp2_with fail
  refine HP.out.mono ?_
  rintro e w3 ⟨hout, ho3⟩
  rcases hout with ⟨_, v3, rfl, hb3⟩ | ⟨hno, _⟩
  rotate_left
  · exact absurd l0_ok hno
  rw [l0_bytes] at hb3
  have HO3 := Lib.hid (HO2.out.trans ho3)
  obtain ⟨g, o, eA, _⟩ := (show ∃ g o, (∃ c, v3 = .slice (some ⟨g, o, none⟩) 24 c ∧ 24 ≤ c) ∧ True from by
    obtain ⟨A, c, e, h1, _, h3⟩ := hb3
    obtain ⟨g, o, e2, _⟩ := h3 0 _ rfl
    subst e2
    exact ⟨g, o, ⟨c, e, h1⟩, trivial⟩)
  obtain ⟨c3, rfl, hc3⟩ := eA
  have HB3 := Lib.hid hb3
  clear hb3 ho3 HP HO2 Ho1
  have hs := hb3sub HB3.out
  have HS3 := Lib.hid hs
  clear hs
  have hc19 : ¬ c3 ≤ 19 := by omega
  have h24 : 19 ≤ c3 := by omega
  have HL := Lib.hid (show ∀ W : World, Byt (W.alloc (.cells #[.int .u8 10, .int .u8 1, .int .u8 1, .int .u8 1, .int .u8 0] 5)) (.slice (some ⟨W.heap.size, 0, none⟩) 5 5) [10, 1, 1, 1, 0] from fun W => ⟨_, 5, rfl, Nat.le_refl _, by decide, lits_src W [.int .u8 10, .int .u8 1, .int .u8 1, .int .u8 1, .int .u8 0] 5⟩)
  have HSm := Lib.hid (same_any _ _ _ _ _ (HS3.out.only ((Only.refl Non w3).alloc (.cells #[.int .u8 10, .int .u8 1, .int .u8 1, .int .u8 1, .int .u8 0] 5)) fun _ _ => id) (HL.out w3))
  rw [decide_eq_true (rfl : ([10, 1, 1, 1, 0] : List Int) = [10, 1, 1, 1, 0])] at HSm
  go_wp2_with fail
  refine HSm.out.mono ?_
  rintro e w4 ⟨rfl, q, e4⟩
  have HO4 := Lib.hid (show Only Non w w4 from by rw [← e4]; exact (HO3.out.alloc _).drewN q)
  clear e4
  go_wp2_with fail
  go_ret
  exact ⟨rfl, HO4.out⟩
end
end Go.Proofs.Ytaofjnpmnaohcaa
