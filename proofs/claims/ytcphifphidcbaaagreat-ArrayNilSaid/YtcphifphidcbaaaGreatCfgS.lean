/- A configuration: what it is in memory, when it is right. No walk. -/
import Derived.Test.YtcphifphidcbaaaGreatCfgA
namespace Go.Proofs.YtcphifphidcbaaaGreat
open Go.RowKit
set_option linter.unusedVariables false
structure CfgA where
  f : Nat → Int
  h : List HintA
def cfgCells (c : CfgA) (hs : Value) : Array Value := #[.int .i64 (c.f 0), .int .i64 (c.f 1), .int .i64 (c.f 2), .int .i64 (c.f 3), .int .i64 (c.f 4), .int .i64 (c.f 5), .int .i64 (c.f 6), .int .i64 (c.f 7), .int .i64 (c.f 8), .int .i64 (c.f 9), .int .i64 (c.f 10), .int .i64 (c.f 11), .int .i64 (c.f 12), .int .i64 (c.f 13), .int .i64 (c.f 14), .int .i64 (c.f 15), hs]
theorem cfgCells_at (c : CfgA) (hs : Value) {i : Nat} (hi : i < 16) : (cfgCells c hs)[i]? = some (.int .i64 (c.f i)) := by
  unfold cfgCells
  rcases (show i = 0 ∨ i = 1 ∨ i = 2 ∨ i = 3 ∨ i = 4 ∨ i = 5 ∨ i = 6 ∨ i = 7 ∨ i = 8 ∨ i = 9 ∨ i = 10 ∨ i = 11 ∨ i = 12 ∨ i = 13 ∨ i = 14 ∨ i = 15 from by omega) with rfl | rfl | rfl | rfl | rfl | rfl | rfl | rfl | rfl | rfl | rfl | rfl | rfl | rfl | rfl | rfl <;> rfl
theorem cfgCells_hs (c : CfgA) (hs : Value) : (cfgCells c hs)[16]? = some hs := rfl
structure CfgP (c : CfgA) : Prop where
  p0 : 1 ≤ c.f 0 ∧ c.f 0 ≤ 4
  p1 : 1 ≤ c.f 1 ∧ c.f 1 ≤ 4
  p2 : 1 ≤ c.f 2 ∧ c.f 2 ≤ 32
  p3 : 1 ≤ c.f 3 ∧ c.f 3 ≤ 16
  p4 : 1 ≤ c.f 4 ∧ c.f 4 ≤ 3
  p5 : 0 ≤ c.f 5 ∧ c.f 5 ≤ 2
  pp : c.f 5 = 0 ∨ c.f 4 = 2
  pl : ∀ t, t < 3 → 1 ≤ c.f (6 + t) ∧ c.f (6 + t) ≤ 2
  pc : ∀ t, t < 3 → 1 ≤ c.f (9 + t) ∧ c.f (9 + t) ≤ 16
  p12 : 1 ≤ c.f 12 ∧ c.f 12 ≤ 8
  p13 : 1 ≤ c.f 13 ∧ c.f 13 ≤ 100
  p14 : 0 ≤ c.f 14 ∧ c.f 14 ≤ 16
  p15 : 1 ≤ c.f 15 ∧ c.f 15 ≤ 16
  ph : c.f 5 = 2 ∨ c.h.length = 0
  hs : hintsP (c.f 2) c.h
noncomputable def cfgB (c : CfgA) : Bool := @decide (CfgP c) (Classical.propDecidable _)
theorem cfgB_no {c : CfgA} (h : ¬ CfgP c) : cfgB c = false := by unfold cfgB; exact @decide_eq_false _ (Classical.propDecidable _) h
theorem cfgB_yes {c : CfgA} (h : CfgP c) : cfgB c = true := by unfold cfgB; exact @decide_eq_true _ (Classical.propDecidable _) h
theorem cfgB_iff {c : CfgA} : cfgB c = true ↔ CfgP c := by unfold cfgB; exact @decide_eq_true_iff _ (Classical.propDecidable _)
theorem hintsB_iff {b : Int} {l : List HintA} : hintsB b l = true ↔ hintsP b l := by unfold hintsB; exact @decide_eq_true_iff _ (Classical.propDecidable _)
theorem CfgP.range {c : CfgA} (h : CfgP c) : ∀ i, i < 16 → 0 ≤ c.f i ∧ c.f i ≤ 100 := by
  intro i hi
  have a0 := h.p0; have a1 := h.p1; have a2 := h.p2; have a3 := h.p3; have a4 := h.p4; have a5 := h.p5
  have b0 : 1 ≤ c.f 6 ∧ c.f 6 ≤ 2 := h.pl 0 (by omega); have b1 : 1 ≤ c.f 7 ∧ c.f 7 ≤ 2 := h.pl 1 (by omega); have b2 : 1 ≤ c.f 8 ∧ c.f 8 ≤ 2 := h.pl 2 (by omega)
  have d0 : 1 ≤ c.f 9 ∧ c.f 9 ≤ 16 := h.pc 0 (by omega); have d1 : 1 ≤ c.f 10 ∧ c.f 10 ≤ 16 := h.pc 1 (by omega); have d2 : 1 ≤ c.f 11 ∧ c.f 11 ≤ 16 := h.pc 2 (by omega)
  have a12 := h.p12; have a13 := h.p13; have a14 := h.p14; have a15 := h.p15
  rcases (show i = 0 ∨ i = 1 ∨ i = 2 ∨ i = 3 ∨ i = 4 ∨ i = 5 ∨ i = 6 ∨ i = 7 ∨ i = 8 ∨ i = 9 ∨ i = 10 ∨ i = 11 ∨ i = 12 ∨ i = 13 ∨ i = 14 ∨ i = 15 from by omega) with rfl | rfl | rfl | rfl | rfl | rfl | rfl | rfl | rfl | rfl | rfl | rfl | rfl | rfl | rfl | rfl <;> omega
theorem within_yes {n a b : Int} (h : a ≤ n ∧ n ≤ b) (w : World) : Calls Tryz.prog 125 #[.int .i64 n, .int .i64 a, .int .i64 b] w fun e w' => e = .returned (.bool true) ∧ w = w' := by
  have := within_any n a b w
  rwa [decide_eq_true h.1, decide_eq_true h.2] at this
theorem within_no {n a b : Int} (h : ¬ (a ≤ n ∧ n ≤ b)) (w : World) : Calls Tryz.prog 125 #[.int .i64 n, .int .i64 a, .int .i64 b] w fun e w' => e = .returned (.bool false) ∧ w = w' := by
  have := within_any n a b w
  rwa [show (decide (a ≤ n) && decide (n ≤ b)) = false from by rw [Bool.and_eq_false_iff, decide_eq_false_iff_not, decide_eq_false_iff_not]; omega] at this
end Go.Proofs.YtcphifphidcbaaaGreat
