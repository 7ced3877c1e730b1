/- The least configuration, and the LRU order of each of its tiers. -/
import Derived.Test.YtcphifphidcbaaaGreatCno
namespace Go.Proofs.YtcphifphidcbaaaGreat
open Go.RowKit Go.ChangeShapes Go.WideShapes
set_option linter.unusedVariables false
set_option linter.unusedSimpArgs false
theorem cfg_one (c : CfgA) (A : Option Addr) (n m : Nat) : (cfgCells c (.slice A n m)).all (·.oneCell') = true := by simp [cfgCells, Value.oneCell']
def lc : CfgA := ⟨fun i => [1, 1, 4, 1, 2, 0, 1, 1, 1, 1, 1, 1, 1, 1, 0, 1].getD i 0, []⟩
theorem lc_ok : CfgP lc where
  p0 := by decide
  p1 := by decide
  p2 := by decide
  p3 := by decide
  p4 := by decide
  p5 := by decide
  pp := by decide
  pl := by decide
  pc := by decide
  p12 := by decide
  p13 := by decide
  p14 := by decide
  p15 := by decide
  ph := .inr rfl
  hs := ⟨fun i hi => absurd hi (Nat.not_lt_zero _), fun i j _ hj => absurd hj (Nat.not_lt_zero _), by decide⟩
theorem lc_made (k : Nat) (hk : k < 3) : (lruK 1).Made lc (k + 1) := by
  rcases (show k = 0 ∨ k = 1 ∨ k = 2 by omega) with rfl | rfl | rfl
  · exact lru_made (c := lc) (k := 0) lc_ok (by decide) (by decide) (by decide)
  · exact lru_made (c := lc) (k := 1) lc_ok (by decide) (by decide) (by decide)
  · exact lru_made (c := lc) (k := 2) lc_ok (by decide) (by decide) (by decide)
def zCfg : Array Value := #[.int .i64 0, .int .i64 0, .int .i64 0, .int .i64 0, .int .i64 0, .int .i64 0, .int .i64 0, .int .i64 0, .int .i64 0, .int .i64 0, .int .i64 0, .int .i64 0, .int .i64 0, .int .i64 0, .int .i64 0, .int .i64 0, .slice none 0 0]
end Go.Proofs.YtcphifphidcbaaaGreat
