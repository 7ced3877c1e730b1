/- gradinelaw16.least, wakes; gradineref16.SameFrame. -/
import Derived.Test.YtdjjlglmhbmnlaaCpu
namespace Go.Proofs.Ytdjjlglmhbmnlaa
open Go.RowKit Go.ChangeShapes Go.WideShapes
set_option linter.unusedVariables false
set_option linter.unusedSimpArgs false
theorem cfg_one (c : CfgA) (A : Option Addr) (n m : Nat) : (cfgCells c (.slice A n m)).all (·.oneCell') = true := by simp [cfgCells, Value.oneCell']
def lc : CfgA := ⟨fun i => [1, 1, 4, 1, 2, 0, 1, 1, 1, 1, 1, 1, 1, 1, 0, 1].getD i 0, []⟩
theorem lc_ok : CfgP lc where
  p0 := by decide
  p1 := by decide
  p2 := by decide
  p3 := by decide
  p4 := by decide
  p5 := by decide
  pp := by decide
  pl := by decide
  pc := by decide
  p12 := by decide
  p13 := by decide
  p14 := by decide
  p15 := by decide
  ph := .inr rfl
  hs := ⟨fun i hi => absurd hi (Nat.not_lt_zero _), fun i j _ hj => absurd hj (Nat.not_lt_zero _), by decide⟩
theorem one_byt {w : World} {g : Nat} {x : Int} (h : Box w g 5 #[.int .u8 x]) : Byt w (.slice (some ⟨g, 0, none⟩) 1 1) [x] := ⟨_, 1, rfl, Nat.le_refl _, by simp, fun j u hj => ⟨g, 0, rfl, by
  rw [Nat.zero_add]
  exact h.cellAt (by simpa using hj)⟩⟩
section
set_option maxHeartbeats 4000000
set_option maxRecDepth 100000
theorem least_any (w : World) : Calls Try.prog 19 #[] w fun e w' => e = .returned (.agg (cfgCells lc (.slice none 0 0))) ∧ Only Non w w' := by
  have HB := Lib.hid (Box.fresh w 25 #[.int .i64 0, .int .i64 0, .int .i64 0, .int .i64 0, .int .i64 0, .int .i64 0, .int .i64 0, .int .i64 0, .int .i64 0, .int .i64 0, .int .i64 0, .int .i64 0, .int .i64 0, .int .i64 0, .int .i64 0, .int .i64 0, .slice none 0 0])
  have HO := Lib.hid (show Only Non w (w.alloc (.cells #[.int .i64 0, .int .i64 0, .int .i64 0, .int .i64 0, .int .i64 0, .int .i64 0, .int .i64 0, .int .i64 0, .int .i64 0, .int .i64 0, .int .i64 0, .int .i64 0, .int .i64 0, .int .i64 0, .int .i64 0, .int .i64 0, .slice none 0 0] 25)) from (Only.refl Non w).alloc _)
  go_enter Try.func19, Try.ntmps19
  go_upto_region 1 with fail
  generalize w.alloc (.cells #[.int .i64 0, .int .i64 0, .int .i64 0, .int .i64 0, .int .i64 0, .int .i64 0, .int .i64 0, .int .i64 0, .int .i64 0, .int .i64 0, .int .i64 0, .int .i64 0, .int .i64 0, .int .i64 0, .int .i64 0, .int .i64 0, .slice none 0 0] 25) = W at *
  go_wp2_with (refine wpList_store_row rfl 25 _ _ rfl w.heap.size (cfgCells lc (.slice none 0 0)) rfl rfl 25 _ HB.out (by kernel_rfl) rfl (cfg_one lc none 0 0) ?_)
  (try simp only [Exit.inBlock, Exit.then])
  refine bodyPost_ret (results_cell_row rfl _ _ w.heap.size _ (cfgCells lc (.slice none 0 0)) (0, 0) _ rfl (HB.out.setRow' _) Try.underlying25 rfl (by kernel_rfl)) rfl ?_
  exact ⟨rfl, HO.out.setRow' (.inr (Nat.le_refl _)) _⟩
theorem sameFrame_any (x y : Int) {va vb : Value} {la lb : List Int} (w : World) (ha : Byt w va la) (hb : Byt w vb lb) :
    Calls Try.prog 20 #[.agg #[.int .i64 x, va], .agg #[.int .i64 y, vb]] w fun e w' => e = .returned (.bool (decide (x = y) && decide (la = lb))) ∧ Only Non w w' := by
  obtain ⟨A, ca, rfl, _⟩ := id ha
  obtain ⟨B, cb, rfl, _⟩ := id hb
  have HO := Lib.hid (((Only.refl Non w).alloc (.cells #[.int .i64 x, .slice A la.length ca] 36)).alloc (.cells #[.int .i64 y, .slice B lb.length cb] 36))
  have hb1 := (Box.fresh w 36 #[.int .i64 x, .slice A la.length ca]).alloc (.cells #[.int .i64 y, .slice B lb.length cb] 36)
  have hb2 := Box.fresh (w.alloc (.cells #[.int .i64 x, .slice A la.length ca] 36)) 36 #[.int .i64 y, .slice B lb.length cb]
  rw [World.size_alloc] at hb2
  have HB1 := Lib.hid hb1
  have HB2 := Lib.hid hb2
  have HA := Lib.hid ha
  have HBB := Lib.hid hb
  clear hb1 hb2 ha hb
  go_enter Try.func20, Try.ntmps20
  go_upto_region 1 with fail
  have HA1 := Lib.hid (HA.out.only HO.out fun _ _ => id)
  have HB3 := Lib.hid (HBB.out.only HO.out fun _ _ => id)
  change Code.wp _ _ _ _ ((w.alloc (.cells #[.int .i64 x, .slice A la.length ca] 36)).alloc (.cells #[.int .i64 y, .slice B lb.length cb] 36))
  generalize (w.alloc (.cells #[.int .i64 x, .slice A la.length ca] 36)).alloc (.cells #[.int .i64 y, .slice B lb.length cb] 36) = W1 at *
  have k0 : W1.cell? ⟨w.heap.size, 0, none⟩ = some (.int .i64 x) := HB1.out.cellAt rfl
  have k1 : W1.cell? ⟨w.heap.size, 1, none⟩ = some (.slice A la.length ca) := HB1.out.cellAt rfl
  have k2 : W1.cell? ⟨w.heap.size + 1, 0, none⟩ = some (.int .i64 y) := HB2.out.cellAt rfl
  have k3 : W1.cell? ⟨w.heap.size + 1, 1, none⟩ = some (.slice B lb.length cb) := HB2.out.cellAt rfl
  by_cases hxy : x = y
  · have HS := Lib.hid (same_any _ _ la lb W1 HA1.out HB3.out)
    have HXY := Lib.hid hxy
    have hxb : (x == y) = true := by simpa using hxy
    clear hxy
    go_wp2_with (go_at_call 13; refine HS.out.mono ?_; rintro e W2 ⟨rfl, m, rfl⟩)
    go_ret
    exact ⟨by rw [decide_eq_true HXY.out, Bool.true_and]; rfl, HO.out.drewN m⟩
  · have HXY := Lib.hid hxy
    have hxb : (x == y) = false := by simpa using hxy
    clear hxy
    go_wp2_with fail
    go_ret
    exact ⟨by rw [decide_eq_false HXY.out, Bool.false_and]; rfl, HO.out⟩
end
end Go.Proofs.Ytdjjlglmhbmnlaa
