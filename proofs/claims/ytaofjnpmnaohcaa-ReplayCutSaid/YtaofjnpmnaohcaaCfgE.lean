/- conf.places: where a configuration's numbers stand. -/
import Derived.Test.YtaofjnpmnaohcaaCfgB
import Derived.StillTailTactics
import Derived.Laws.Rows
namespace Go.Proofs.Ytaofjnpmnaohcaa
open Go.RowKit
set_option linter.unusedVariables false
set_option linter.unusedSimpArgs false
def spots (g : Nat) : Array Value := #[.pointer (some ⟨g, 0, none⟩), .pointer (some ⟨g, 1, none⟩), .pointer (some ⟨g, 2, none⟩), .pointer (some ⟨g, 3, none⟩), .pointer (some ⟨g, 4, none⟩), .pointer (some ⟨g, 5, none⟩), .pointer (some ⟨g, 6, none⟩), .pointer (some ⟨g, 7, none⟩), .pointer (some ⟨g, 8, none⟩), .pointer (some ⟨g, 9, none⟩), .pointer (some ⟨g, 10, none⟩), .pointer (some ⟨g, 11, none⟩), .pointer (some ⟨g, 12, none⟩), .pointer (some ⟨g, 13, none⟩), .pointer (some ⟨g, 14, none⟩), .pointer (some ⟨g, 15, none⟩)]
theorem spots_box (w0 w2 : World) (G g : Nat) (hb : Box w2 G 68 #[.pointer none, .pointer none, .pointer none, .pointer none, .pointer none, .pointer none, .pointer none, .pointer none, .pointer none, .pointer none, .pointer none, .pointer none, .pointer none, .pointer none, .pointer none, .pointer none]) (ho : Only Non w0 w2) (hG : w0.heap.size ≤ G) : ∃ w3, ((((((((((((((((w2.setCell ⟨G, 0, none⟩ (.pointer (some ⟨g, 0, none⟩))).setCell ⟨G, 1, none⟩ (.pointer (some ⟨g, 1, none⟩))).setCell ⟨G, 2, none⟩ (.pointer (some ⟨g, 2, none⟩))).setCell ⟨G, 3, none⟩ (.pointer (some ⟨g, 3, none⟩))).setCell ⟨G, 4, none⟩ (.pointer (some ⟨g, 4, none⟩))).setCell ⟨G, 5, none⟩ (.pointer (some ⟨g, 5, none⟩))).setCell ⟨G, 6, none⟩ (.pointer (some ⟨g, 6, none⟩))).setCell ⟨G, 7, none⟩ (.pointer (some ⟨g, 7, none⟩))).setCell ⟨G, 8, none⟩ (.pointer (some ⟨g, 8, none⟩))).setCell ⟨G, 9, none⟩ (.pointer (some ⟨g, 9, none⟩))).setCell ⟨G, 10, none⟩ (.pointer (some ⟨g, 10, none⟩))).setCell ⟨G, 11, none⟩ (.pointer (some ⟨g, 11, none⟩))).setCell ⟨G, 12, none⟩ (.pointer (some ⟨g, 12, none⟩))).setCell ⟨G, 13, none⟩ (.pointer (some ⟨g, 13, none⟩))).setCell ⟨G, 14, none⟩ (.pointer (some ⟨g, 14, none⟩))).setCell ⟨G, 15, none⟩ (.pointer (some ⟨g, 15, none⟩))) = w3 ∧ Box w3 G 68 (spots g) ∧ Only Non w0 w3 := by
  refine ⟨_, rfl, ?_, ?_⟩
  · have h0 := hb
    have h1 := h0.store 0 (.pointer (some ⟨g, 0, none⟩))
    simp only [List.setIfInBounds_toArray, List.set_cons_zero, List.set_cons_succ] at h1
    have h2 := h1.store 1 (.pointer (some ⟨g, 1, none⟩))
    simp only [List.setIfInBounds_toArray, List.set_cons_zero, List.set_cons_succ] at h2
    have h3 := h2.store 2 (.pointer (some ⟨g, 2, none⟩))
    simp only [List.setIfInBounds_toArray, List.set_cons_zero, List.set_cons_succ] at h3
    have h4 := h3.store 3 (.pointer (some ⟨g, 3, none⟩))
    simp only [List.setIfInBounds_toArray, List.set_cons_zero, List.set_cons_succ] at h4
    have h5 := h4.store 4 (.pointer (some ⟨g, 4, none⟩))
    simp only [List.setIfInBounds_toArray, List.set_cons_zero, List.set_cons_succ] at h5
    have h6 := h5.store 5 (.pointer (some ⟨g, 5, none⟩))
    simp only [List.setIfInBounds_toArray, List.set_cons_zero, List.set_cons_succ] at h6
    have h7 := h6.store 6 (.pointer (some ⟨g, 6, none⟩))
    simp only [List.setIfInBounds_toArray, List.set_cons_zero, List.set_cons_succ] at h7
    have h8 := h7.store 7 (.pointer (some ⟨g, 7, none⟩))
    simp only [List.setIfInBounds_toArray, List.set_cons_zero, List.set_cons_succ] at h8
    have h9 := h8.store 8 (.pointer (some ⟨g, 8, none⟩))
    simp only [List.setIfInBounds_toArray, List.set_cons_zero, List.set_cons_succ] at h9
    have h10 := h9.store 9 (.pointer (some ⟨g, 9, none⟩))
    simp only [List.setIfInBounds_toArray, List.set_cons_zero, List.set_cons_succ] at h10
    have h11 := h10.store 10 (.pointer (some ⟨g, 10, none⟩))
    simp only [List.setIfInBounds_toArray, List.set_cons_zero, List.set_cons_succ] at h11
    have h12 := h11.store 11 (.pointer (some ⟨g, 11, none⟩))
    simp only [List.setIfInBounds_toArray, List.set_cons_zero, List.set_cons_succ] at h12
    have h13 := h12.store 12 (.pointer (some ⟨g, 12, none⟩))
    simp only [List.setIfInBounds_toArray, List.set_cons_zero, List.set_cons_succ] at h13
    have h14 := h13.store 13 (.pointer (some ⟨g, 13, none⟩))
    simp only [List.setIfInBounds_toArray, List.set_cons_zero, List.set_cons_succ] at h14
    have h15 := h14.store 14 (.pointer (some ⟨g, 14, none⟩))
    simp only [List.setIfInBounds_toArray, List.set_cons_zero, List.set_cons_succ] at h15
    have h16 := h15.store 15 (.pointer (some ⟨g, 15, none⟩))
    simp only [List.setIfInBounds_toArray, List.set_cons_zero, List.set_cons_succ] at h16
    exact h16
  · have h0 := ho
    have h1 := h0.setCell (p := ⟨G, 0, none⟩) (.inr hG) (.pointer (some ⟨g, 0, none⟩))
    have h2 := h1.setCell (p := ⟨G, 1, none⟩) (.inr hG) (.pointer (some ⟨g, 1, none⟩))
    have h3 := h2.setCell (p := ⟨G, 2, none⟩) (.inr hG) (.pointer (some ⟨g, 2, none⟩))
    have h4 := h3.setCell (p := ⟨G, 3, none⟩) (.inr hG) (.pointer (some ⟨g, 3, none⟩))
    have h5 := h4.setCell (p := ⟨G, 4, none⟩) (.inr hG) (.pointer (some ⟨g, 4, none⟩))
    have h6 := h5.setCell (p := ⟨G, 5, none⟩) (.inr hG) (.pointer (some ⟨g, 5, none⟩))
    have h7 := h6.setCell (p := ⟨G, 6, none⟩) (.inr hG) (.pointer (some ⟨g, 6, none⟩))
    have h8 := h7.setCell (p := ⟨G, 7, none⟩) (.inr hG) (.pointer (some ⟨g, 7, none⟩))
    have h9 := h8.setCell (p := ⟨G, 8, none⟩) (.inr hG) (.pointer (some ⟨g, 8, none⟩))
    have h10 := h9.setCell (p := ⟨G, 9, none⟩) (.inr hG) (.pointer (some ⟨g, 9, none⟩))
    have h11 := h10.setCell (p := ⟨G, 10, none⟩) (.inr hG) (.pointer (some ⟨g, 10, none⟩))
    have h12 := h11.setCell (p := ⟨G, 11, none⟩) (.inr hG) (.pointer (some ⟨g, 11, none⟩))
    have h13 := h12.setCell (p := ⟨G, 12, none⟩) (.inr hG) (.pointer (some ⟨g, 12, none⟩))
    have h14 := h13.setCell (p := ⟨G, 13, none⟩) (.inr hG) (.pointer (some ⟨g, 13, none⟩))
    have h15 := h14.setCell (p := ⟨G, 14, none⟩) (.inr hG) (.pointer (some ⟨g, 14, none⟩))
    have h16 := h15.setCell (p := ⟨G, 15, none⟩) (.inr hG) (.pointer (some ⟨g, 15, none⟩))
    exact h16
section
set_option maxHeartbeats 4000000
set_option maxRecDepth 100000
theorem places_any (g : Nat) (w : World) : Calls Try.prog 30 #[.pointer (some ⟨g, 0, none⟩)] w fun e w' => e = .returned (.agg (spots g)) ∧ Only Non w w' := by
  go_enter Try.func30, Try.ntmps30
  go_wp2_with fail
  go_still_tail 55, (by kernel_rfl)
  have HB := (Box.fresh w 68 #[.pointer none, .pointer none, .pointer none, .pointer none, .pointer none, .pointer none, .pointer none, .pointer none, .pointer none, .pointer none, .pointer none, .pointer none, .pointer none, .pointer none, .pointer none, .pointer none]).drew
  have Ho := Lib.hid ((Only.refl Non w).alloc (.cells #[.pointer none, .pointer none, .pointer none, .pointer none, .pointer none, .pointer none, .pointer none, .pointer none, .pointer none, .pointer none, .pointer none, .pointer none, .pointer none, .pointer none, .pointer none, .pointer none] 68)).drew
  change wpList _ _ _ _ _ (w.alloc (.cells #[.pointer none, .pointer none, .pointer none, .pointer none, .pointer none, .pointer none, .pointer none, .pointer none, .pointer none, .pointer none, .pointer none, .pointer none, .pointer none, .pointer none, .pointer none, .pointer none] 68)).drew
  generalize (w.alloc (.cells #[.pointer none, .pointer none, .pointer none, .pointer none, .pointer none, .pointer none, .pointer none, .pointer none, .pointer none, .pointer none, .pointer none, .pointer none, .pointer none, .pointer none, .pointer none, .pointer none] 68)).drew = w2 at *
  generalize hG : w.heap.size = G at *
  have HG := Lib.hid hG
  clear hG
  have HB := Lib.hid HB
  have c0 : w2.cell? ⟨G, 0, none⟩ = some (.pointer none) := HB.out.cellAt rfl
  have f0 : w2.frozen? ⟨G, 0, none⟩ = false := HB.out.free 0
  have c1 : w2.cell? ⟨G, 1, none⟩ = some (.pointer none) := HB.out.cellAt rfl
  have f1 : w2.frozen? ⟨G, 1, none⟩ = false := HB.out.free 1
  have c2 : w2.cell? ⟨G, 2, none⟩ = some (.pointer none) := HB.out.cellAt rfl
  have f2 : w2.frozen? ⟨G, 2, none⟩ = false := HB.out.free 2
  have c3 : w2.cell? ⟨G, 3, none⟩ = some (.pointer none) := HB.out.cellAt rfl
  have f3 : w2.frozen? ⟨G, 3, none⟩ = false := HB.out.free 3
  have c4 : w2.cell? ⟨G, 4, none⟩ = some (.pointer none) := HB.out.cellAt rfl
  have f4 : w2.frozen? ⟨G, 4, none⟩ = false := HB.out.free 4
  have c5 : w2.cell? ⟨G, 5, none⟩ = some (.pointer none) := HB.out.cellAt rfl
  have f5 : w2.frozen? ⟨G, 5, none⟩ = false := HB.out.free 5
  have c6 : w2.cell? ⟨G, 6, none⟩ = some (.pointer none) := HB.out.cellAt rfl
  have f6 : w2.frozen? ⟨G, 6, none⟩ = false := HB.out.free 6
  have c7 : w2.cell? ⟨G, 7, none⟩ = some (.pointer none) := HB.out.cellAt rfl
  have f7 : w2.frozen? ⟨G, 7, none⟩ = false := HB.out.free 7
  have c8 : w2.cell? ⟨G, 8, none⟩ = some (.pointer none) := HB.out.cellAt rfl
  have f8 : w2.frozen? ⟨G, 8, none⟩ = false := HB.out.free 8
  have c9 : w2.cell? ⟨G, 9, none⟩ = some (.pointer none) := HB.out.cellAt rfl
  have f9 : w2.frozen? ⟨G, 9, none⟩ = false := HB.out.free 9
  have c10 : w2.cell? ⟨G, 10, none⟩ = some (.pointer none) := HB.out.cellAt rfl
  have f10 : w2.frozen? ⟨G, 10, none⟩ = false := HB.out.free 10
  have c11 : w2.cell? ⟨G, 11, none⟩ = some (.pointer none) := HB.out.cellAt rfl
  have f11 : w2.frozen? ⟨G, 11, none⟩ = false := HB.out.free 11
  have c12 : w2.cell? ⟨G, 12, none⟩ = some (.pointer none) := HB.out.cellAt rfl
  have f12 : w2.frozen? ⟨G, 12, none⟩ = false := HB.out.free 12
  have c13 : w2.cell? ⟨G, 13, none⟩ = some (.pointer none) := HB.out.cellAt rfl
  have f13 : w2.frozen? ⟨G, 13, none⟩ = false := HB.out.free 13
  have c14 : w2.cell? ⟨G, 14, none⟩ = some (.pointer none) := HB.out.cellAt rfl
  have f14 : w2.frozen? ⟨G, 14, none⟩ = false := HB.out.free 14
  have c15 : w2.cell? ⟨G, 15, none⟩ = some (.pointer none) := HB.out.cellAt rfl
  have f15 : w2.frozen? ⟨G, 15, none⟩ = false := HB.out.free 15
  go_wp2_with fail
  obtain ⟨w3, e3, HB3, ho3⟩ := spots_box w w2 G g HB.out Ho.out (by have := HG.out; omega)
  rw [e3]
  have Ho3 := Lib.hid ho3
  clear e3 ho3 c0 c1 c2 c3 c4 c5 c6 c7 c8 c9 c10 c11 c12 c13 c14 c15 f0 f1 f2 f3 f4 f5 f6 f7 f8 f9 f10 f11 f12 f13 f14 f15
  (try simp only [Exit.inBlock, Exit.then])
  refine bodyPost_ret (results_cell_row rfl _ _ G _ (spots g) (0, 0) _ rfl HB3 Try.underlying68 rfl (by kernel_rfl)) rfl ?_
  exact ⟨rfl, Ho3.out⟩
end
end Go.Proofs.Ytaofjnpmnaohcaa
