/- A list of operations that came in, and their blocks' range. -/
import Derived.Test.YthfafegfooibmaaHistR
import Derived.Test.YthfafegfooibmaaMapI
namespace Go.Proofs.Ythfafegfooibmaa
open Go.ChangeShapes Go.WideShapes Go.ChangeAt Go.RowKit Go.Deep
set_option linter.unusedVariables false
section
variable {H : Type} {enc : TypeId × Value → H} {w : World} {base : Nat} {spare : Nat → Bool} {held : Bool}
theorem dones_trod' {fuel : Nat} {cs : List Value} {y : DataW H × List MemPlace} (hf : DataW.trod enc Try.prog w base spare held fuel 22 cs = some y) (hz : Small Try.prog 22 y.1) :
    ∃ A c L, cs = [.slice A (List.length L) c] ∧ DonesAt w A L.length c L ∧ ∀ o ∈ L, I64 o.block := by
  obtain ⟨A, len, cap, n, rfl, hl, hm, hsz, hel⟩ := slice_trod (C := 10) Try.underlying22 (by kernel_rfl) (by decide) hf hz
  have key : ∀ i, i < len → ∃ a : DoneR, I64 a.block ∧ (∃ g o dA dc, A = some ⟨g, o, none⟩ ∧ g < w.heap.size ∧ (∀ j v, (doneC a (.slice dA a.data.length dc))[j]? = some v → w.cell? ⟨g, o + i * 10 + j, none⟩ = some v) ∧ Byt w (.slice dA a.data.length dc) a.data) := by
    intro i hil
    obtain ⟨cs', y', ⟨hcl, g, o, rfl, hg, hcell⟩, htr, hsm⟩ := hel i hil
    obtain ⟨m, hm⟩ := struct_trod Try.underlying33 (by kernel_rfl) htr hsm hcl
    obtain ⟨v0, y0, h0, t0, _⟩ := hm 0 _ rfl
    obtain ⟨v1, y1, h1, t1, _⟩ := hm 1 _ rfl
    obtain ⟨v2, y2, h2, t2, _⟩ := hm 2 _ rfl
    obtain ⟨v3, y3, h3, t3, _⟩ := hm 3 _ rfl
    obtain ⟨v4, y4, h4, t4, _⟩ := hm 4 _ rfl
    obtain ⟨v5, y5, h5, t5, s5⟩ := hm 5 _ rfl
    obtain ⟨v6, y6, h6, t6, _⟩ := hm 6 _ rfl
    obtain ⟨v7, y7, h7, t7, _⟩ := hm 7 _ rfl
    obtain ⟨v8, y8, h8, t8, _⟩ := hm 8 _ rfl
    obtain ⟨v9, y9, h9, t9, _⟩ := hm 9 _ rfl
    obtain ⟨z0, e0, _, _⟩ := DataW.trod_int Try.underlying3 t0
    obtain ⟨z1, e1, _, _⟩ := DataW.trod_int Try.underlying3 t1
    obtain ⟨z2, e2, _, _⟩ := DataW.trod_int Try.underlying3 t2
    obtain ⟨z3, e3, _⟩ := DataW.trod_bool Try.underlying4 t3
    obtain ⟨z4, e4, _, wf4⟩ := DataW.trod_int Try.underlying3 t4
    obtain ⟨z6, e6, _, _⟩ := DataW.trod_int Try.underlying25 t6
    obtain ⟨z7, e7, _, _⟩ := DataW.trod_int Try.underlying3 t7
    obtain ⟨z8, e8, _, _⟩ := DataW.trod_int Try.underlying3 t8
    obtain ⟨z9, e9, _⟩ := DataW.trod_bool Try.underlying4 t9
    obtain ⟨v, d, e5, hby, hrng, _⟩ := bytes_trod Try.underlying31 (by kernel_rfl) Try.underlying5 (by kernel_rfl) t5 s5
    simp only [List.cons.injEq, and_true] at e0 e1 e2 e3 e4 e5 e6 e7 e8 e9
    subst e0 e1 e2 e3 e4 e5 e6 e7 e8 e9
    have hby' := hby
    obtain ⟨dA, dc, rfl, _⟩ := hby
    refine ⟨⟨z0, z1, z2, z3, z4, d, z6, z7, z8, z9⟩, I64.of wf4, g, o, dA, dc, rfl, hg, fun j v hv => ?_, hby'⟩
    have hj : j < 10 := by
      have := (Array.getElem?_eq_some_iff.1 hv).1
      simpa [doneC] using this
    rw [hcell j hj]
    rcases (show j = 0 ∨ j = 1 ∨ j = 2 ∨ j = 3 ∨ j = 4 ∨ j = 5 ∨ j = 6 ∨ j = 7 ∨ j = 8 ∨ j = 9 by omega) with rfl | rfl | rfl | rfl | rfl | rfl | rfl | rfl | rfl | rfl
    · exact h0.trans hv
    · exact h1.trans hv
    · exact h2.trans hv
    · exact h3.trans hv
    · exact h4.trans hv
    · exact h5.trans hv
    · exact h6.trans hv
    · exact h7.trans hv
    · exact h8.trans hv
    · exact h9.trans hv
  obtain ⟨L, hL, hR⟩ := choose_list len default _ key
  subst hL
  refine ⟨A, cap, L, rfl, ⟨rfl, hl, hm, fun i hi => (hR i hi).2⟩, fun o ho => ?_⟩
  obtain ⟨i, hi, rfl⟩ := List.mem_iff_getElem.1 ho
  have := (hR i hi).1
  simpa [List.getD, hi] using this
theorem dones_val' {r : Reach} {b0 : Nat} {v : Value} {d : DataW H} {p : List MemPlace} (hv : Value.okWide Try.prog w r b0 22 v) (h : DataW.Trod enc Try.prog w base spare held 22 v d p) (hz : Small Try.prog 22 d) :
    ∃ A c L, v = .slice A (List.length L) c ∧ DonesAt w A L.length c L ∧ ∀ o ∈ L, I64 o.block := by
  obtain ⟨A, len, cap, rfl⟩ := okWide_slice Try.underlying22 hv
  obtain ⟨fuel, hf⟩ := h
  obtain ⟨A', c, L, e1, h1⟩ := dones_trod' hf hz
  refine ⟨A', c, L, ?_, h1⟩
  simpa [Value.cells] using e1
end
end Go.Proofs.Ythfafegfooibmaa
