/- gradineref03.Same at two that are one configuration. Printed by samea.py. -/
import Derived.Test.YtaofjnpmnaohcaaGetC
namespace Go.Proofs.Ytaofjnpmnaohcaa
open Go.RowKit
set_option linter.unusedVariables false
set_option linter.unusedSimpArgs false
def SaRel (n : Nat) (W : World) (i : Value) (wr : World) : Prop := ∃ k q : Nat, k ≤ n ∧ i = .int .i64 k ∧ W.drewN q = wr
section
set_option maxHeartbeats 4000000
set_option maxRecDepth 100000
theorem arr3 (x y z : Int) (w : World) : (Op.equalIn 10000 22 (.agg #[.int .i64 x, .int .i64 y, .int .i64 z]) (.agg #[.int .i64 x, .int .i64 y, .int .i64 z])).run Try.prog w = .ok true w := by
  have u3 := Try.underlying3
  have a3 := Try.isAgg3
  have z3 := Try.sizeOf3
  rw [show (10000 : Nat) = 9999 + 1 from rfl, Op.equalIn]
  simp only [Sem.run_bind, run_underlying Try.underlying22, Result.andThen_ok]
  simp only [Std.Legacy.Range.forIn_eq_forIn_range', Std.Legacy.Range.size, Nat.sub_zero, Nat.add_sub_cancel, Nat.div_one, List.range'_succ, List.range'_zero, List.forIn_cons, List.forIn_nil]
  go_simp
theorem csame_any (c : CfgA) (A B : Option Addr) (n m ca cb : Nat) (w : World) (ha : HintsAt w A n ca c.h) (hb : HintsAt w B m cb c.h) :
    Calls Try.prog 11 #[.agg (cfgCells c (.slice A n ca)), .agg (cfgCells c (.slice B m cb))] w fun e w' => e = .returned (.bool true) ∧ Only Non w w' := by
  have h1 := ha.len
  have h2 := hb.len
  subst h1
  subst h2
  have hc1 := ha.cap
  have hc2 := hb.cap
  have hm1 := ha.max
  have hm2 := hb.max
  unfold maxLen at hm1 hm2
  have HO := Lib.hid (show Only Non w ((w.alloc (.cells (cfgCells c (.slice A c.h.length ca)) 25)).alloc (.cells (cfgCells c (.slice B c.h.length cb)) 25)) from ((Only.refl Non w).alloc _).alloc _)
  have HX := Lib.hid ((Box.fresh w 25 (cfgCells c (.slice A c.h.length ca))).alloc (.cells (cfgCells c (.slice B c.h.length cb)) 25))
  have HY := Lib.hid (show Box ((w.alloc (.cells (cfgCells c (.slice A c.h.length ca)) 25)).alloc (.cells (cfgCells c (.slice B c.h.length cb)) 25)) (w.heap.size + 1) 25 (cfgCells c (.slice B c.h.length cb)) from by
    have := Box.fresh (w.alloc (.cells (cfgCells c (.slice A c.h.length ca)) 25)) 25 (cfgCells c (.slice B c.h.length cb))
    rwa [show (w.alloc (.cells (cfgCells c (.slice A c.h.length ca)) 25)).heap.size = w.heap.size + 1 from World.size_alloc _ _] at this)
  have HA := Lib.hid (ha.keep HO.out)
  have HB := Lib.hid (hb.keep HO.out)
  clear ha hb
  go_enter Try.func11, Try.ntmps11
  go_upto_region 1 with fail
  change Code.wp _ _ _ _ ((w.alloc (.cells (cfgCells c (.slice A c.h.length ca)) 25)).alloc (.cells (cfgCells c (.slice B c.h.length cb)) 25))
  generalize (w.alloc (.cells (cfgCells c (.slice A c.h.length ca)) 25)).alloc (.cells (cfgCells c (.slice B c.h.length cb)) 25) = W at *
  generalize hyb : w.heap.size + 1 = yb at *
  clear hyb
  generalize w.heap.size = xb at *
  have x16 : W.cell? ⟨xb, 16, none⟩ = some (.slice A c.h.length ca) := HX.out.cellAt (cfgCells_hs c _)
  have y16 : W.cell? ⟨yb, 16, none⟩ = some (.slice B c.h.length cb) := HY.out.cellAt (cfgCells_hs c _)
  go_wp2_with fail
  clear x16 y16
  go_loopw [5] (fun i wr => SaRel c.h.length W i wr) (fun i _ => c.h.length - (intOf i).toNat)
  case atStart => exact ⟨0, 0, Nat.zero_le _, rfl, rfl⟩
  case round =>
    obtain ⟨k, q, hk, rfl, rfl⟩ := hrel
    by_cases hlt : k < c.h.length
    · obtain ⟨g, o, rfl, hg, a0, a1, a2, a3⟩ := HA.out.at_ k hlt
      obtain ⟨g', o', rfl, hg', b0, b1, b2, b3⟩ := HB.out.at_ k hlt
      generalize c.h.getD k default = hd at *
      have x16 : W.cell? ⟨xb, 16, none⟩ = some (.slice (some ⟨g, o, none⟩) c.h.length ca) := HX.out.cellAt (cfgCells_hs c _)
      have y16 : W.cell? ⟨yb, 16, none⟩ = some (.slice (some ⟨g', o', none⟩) c.h.length cb) := HY.out.cellAt (cfgCells_hs c _)
      have hltb : (k : Int) < c.h.length := by omega
      have Hlt := Lib.hid hlt
      clear hlt
      go_upto_region 6 with fail
      go_quiet (fail)
      go_wp2
      exact ⟨⟨k + 1, q + nq, Hlt.out, by simp, rfl⟩, by have := Hlt.out; simp [intOf]; omega⟩
    · obtain rfl : k = c.h.length := by omega
      have HOq := Lib.hid (HO.out.drewN q)
      have HXq := Lib.hid (show Box (W.drewN q) xb 25 (cfgCells c (.slice A c.h.length ca)) from HX.out)
      have HYq := Lib.hid (show Box (W.drewN q) yb 25 (cfgCells c (.slice B c.h.length cb)) from HY.out)
      generalize W.drewN q = W2 at *
      clear hlt hk
      have x0 : W2.cell? ⟨xb, 0, none⟩ = some (.int .i64 (c.f 0)) := HXq.out.cellAt (cfgCells_at c _ (i := 0) (by omega))
      have x1 : W2.cell? ⟨xb, 1, none⟩ = some (.int .i64 (c.f 1)) := HXq.out.cellAt (cfgCells_at c _ (i := 1) (by omega))
      have x2 : W2.cell? ⟨xb, 2, none⟩ = some (.int .i64 (c.f 2)) := HXq.out.cellAt (cfgCells_at c _ (i := 2) (by omega))
      have x3 : W2.cell? ⟨xb, 3, none⟩ = some (.int .i64 (c.f 3)) := HXq.out.cellAt (cfgCells_at c _ (i := 3) (by omega))
      have x4 : W2.cell? ⟨xb, 4, none⟩ = some (.int .i64 (c.f 4)) := HXq.out.cellAt (cfgCells_at c _ (i := 4) (by omega))
      have x5 : W2.cell? ⟨xb, 5, none⟩ = some (.int .i64 (c.f 5)) := HXq.out.cellAt (cfgCells_at c _ (i := 5) (by omega))
      have x6 : W2.cell? ⟨xb, 6, none⟩ = some (.int .i64 (c.f 6)) := HXq.out.cellAt (cfgCells_at c _ (i := 6) (by omega))
      have x7 : W2.cell? ⟨xb, 7, none⟩ = some (.int .i64 (c.f 7)) := HXq.out.cellAt (cfgCells_at c _ (i := 7) (by omega))
      have x8 : W2.cell? ⟨xb, 8, none⟩ = some (.int .i64 (c.f 8)) := HXq.out.cellAt (cfgCells_at c _ (i := 8) (by omega))
      have x9 : W2.cell? ⟨xb, 9, none⟩ = some (.int .i64 (c.f 9)) := HXq.out.cellAt (cfgCells_at c _ (i := 9) (by omega))
      have x10 : W2.cell? ⟨xb, 10, none⟩ = some (.int .i64 (c.f 10)) := HXq.out.cellAt (cfgCells_at c _ (i := 10) (by omega))
      have x11 : W2.cell? ⟨xb, 11, none⟩ = some (.int .i64 (c.f 11)) := HXq.out.cellAt (cfgCells_at c _ (i := 11) (by omega))
      have x12 : W2.cell? ⟨xb, 12, none⟩ = some (.int .i64 (c.f 12)) := HXq.out.cellAt (cfgCells_at c _ (i := 12) (by omega))
      have x13 : W2.cell? ⟨xb, 13, none⟩ = some (.int .i64 (c.f 13)) := HXq.out.cellAt (cfgCells_at c _ (i := 13) (by omega))
      have x14 : W2.cell? ⟨xb, 14, none⟩ = some (.int .i64 (c.f 14)) := HXq.out.cellAt (cfgCells_at c _ (i := 14) (by omega))
      have x15 : W2.cell? ⟨xb, 15, none⟩ = some (.int .i64 (c.f 15)) := HXq.out.cellAt (cfgCells_at c _ (i := 15) (by omega))
      have x16 : W2.cell? ⟨xb, 16, none⟩ = some (.slice A c.h.length ca) := HXq.out.cellAt (cfgCells_hs c _)
      have y0 : W2.cell? ⟨yb, 0, none⟩ = some (.int .i64 (c.f 0)) := HYq.out.cellAt (cfgCells_at c _ (i := 0) (by omega))
      have y1 : W2.cell? ⟨yb, 1, none⟩ = some (.int .i64 (c.f 1)) := HYq.out.cellAt (cfgCells_at c _ (i := 1) (by omega))
      have y2 : W2.cell? ⟨yb, 2, none⟩ = some (.int .i64 (c.f 2)) := HYq.out.cellAt (cfgCells_at c _ (i := 2) (by omega))
      have y3 : W2.cell? ⟨yb, 3, none⟩ = some (.int .i64 (c.f 3)) := HYq.out.cellAt (cfgCells_at c _ (i := 3) (by omega))
      have y4 : W2.cell? ⟨yb, 4, none⟩ = some (.int .i64 (c.f 4)) := HYq.out.cellAt (cfgCells_at c _ (i := 4) (by omega))
      have y5 : W2.cell? ⟨yb, 5, none⟩ = some (.int .i64 (c.f 5)) := HYq.out.cellAt (cfgCells_at c _ (i := 5) (by omega))
      have y6 : W2.cell? ⟨yb, 6, none⟩ = some (.int .i64 (c.f 6)) := HYq.out.cellAt (cfgCells_at c _ (i := 6) (by omega))
      have y7 : W2.cell? ⟨yb, 7, none⟩ = some (.int .i64 (c.f 7)) := HYq.out.cellAt (cfgCells_at c _ (i := 7) (by omega))
      have y8 : W2.cell? ⟨yb, 8, none⟩ = some (.int .i64 (c.f 8)) := HYq.out.cellAt (cfgCells_at c _ (i := 8) (by omega))
      have y9 : W2.cell? ⟨yb, 9, none⟩ = some (.int .i64 (c.f 9)) := HYq.out.cellAt (cfgCells_at c _ (i := 9) (by omega))
      have y10 : W2.cell? ⟨yb, 10, none⟩ = some (.int .i64 (c.f 10)) := HYq.out.cellAt (cfgCells_at c _ (i := 10) (by omega))
      have y11 : W2.cell? ⟨yb, 11, none⟩ = some (.int .i64 (c.f 11)) := HYq.out.cellAt (cfgCells_at c _ (i := 11) (by omega))
      have y12 : W2.cell? ⟨yb, 12, none⟩ = some (.int .i64 (c.f 12)) := HYq.out.cellAt (cfgCells_at c _ (i := 12) (by omega))
      have y13 : W2.cell? ⟨yb, 13, none⟩ = some (.int .i64 (c.f 13)) := HYq.out.cellAt (cfgCells_at c _ (i := 13) (by omega))
      have y14 : W2.cell? ⟨yb, 14, none⟩ = some (.int .i64 (c.f 14)) := HYq.out.cellAt (cfgCells_at c _ (i := 14) (by omega))
      have y15 : W2.cell? ⟨yb, 15, none⟩ = some (.int .i64 (c.f 15)) := HYq.out.cellAt (cfgCells_at c _ (i := 15) (by omega))
      have y16 : W2.cell? ⟨yb, 16, none⟩ = some (.slice B c.h.length cb) := HYq.out.cellAt (cfgCells_hs c _)
      have h6 := fun w => arr3 (c.f 6) (c.f 7) (c.f 8) w
      have h9 := fun w => arr3 (c.f 9) (c.f 10) (c.f 11) w
      go_wp2_with fail
      go_ret
      exact ⟨rfl, HOq.out⟩
end
end Go.Proofs.Ytaofjnpmnaohcaa
