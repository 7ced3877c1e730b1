/- Several texts, one behind the other: ArgC. -/
import Derived.Test.YtodephhlhdbeoaaGreatM6
import Derived.Test.YtodephhlhdbeoaaGreatM25
namespace Go.Proofs.YtodephhlhdbeoaaGreat
open Go.ChangeShapes Go.WideShapes Go.ChangeAt Go.RowKit Go.Deep
set_option linter.unusedVariables false
set_option maxRecDepth 100000
section
variable {H : Type} {enc : TypeId × Value → H} {w : World} {base : Nat} {spare : Nat → Bool} {held : Bool}
theorem cacts_trod {fuel : Nat} {cs : List Value} {y : DataW H × List MemPlace} (hf : DataW.trod enc Tryz.prog w base spare held fuel 26 cs = some y) (hz : Small Tryz.prog 26 y.1) :
    ∃ A c L, cs = [.slice A (List.length L) c] ∧ CActsAt w.heap.size w A L.length c L := by
  obtain ⟨A, len, cap, n, rfl, hl, hm, hsz, hel⟩ := slice_trod (C := 4) Tryz.underlying26 (by kernel_rfl) (by decide) hf hz
  have key : ∀ i, i < len → ∃ a : ActC, ∃ g o dv, A = some ⟨g, o, none⟩ ∧ g < w.heap.size ∧ (∀ j u, (actC a dv)[j]? = some u → w.cell? ⟨g, o + i * 4 + j, none⟩ = some u) ∧ Byt w dv a.data ∧ (∀ k, 0 < a.data.length → ownB dv k → k < w.heap.size) := by
    intro i hil
    obtain ⟨cs', y', ⟨hcl, g, o, rfl, hg, hcell⟩, htr, hsm⟩ := hel i hil
    obtain ⟨xs, m, _, rfl, _, hlen, hx⟩ := DataW.trod_struct Tryz.underlying40 htr
    have hlen : xs.length = 3 := hlen
    simp only [Small, DataW.weights, Tryz.underlying40] at hsm
    have hC1 : Tryz.prog.cellsOf 3 = 1 := by kernel_rfl
    have hxs : ∀ j, j < 3 → ∃ y, xs[j]? = some y := fun j hj => ⟨xs[j]'(by omega), List.getElem?_eq_getElem (by omega)⟩
    obtain ⟨y0, hy0⟩ := hxs 0 (by decide)
    obtain ⟨z0, hz0⟩ := int_field (o := 0) Tryz.underlying3 hC1 (hx 0 _ rfl) hy0
    obtain ⟨y1, hy1⟩ := hxs 1 (by decide)
    obtain ⟨z1, hz1⟩ := int_field (o := 1) Tryz.underlying3 hC1 (hx 1 _ rfl) hy1
    obtain ⟨y2, hy2⟩ := hxs 2 (by decide)
    have h2 := (hx 2 _ rfl).trans hy2
    have e2 : (cs'.drop 2).take (Tryz.prog.cellsOf 38) = [cs'[2]'(by omega), cs'[3]'(by omega)] := by
      rw [show Tryz.prog.cellsOf 38 = 2 from by kernel_rfl, List.drop_eq_getElem_cons (by omega), List.drop_eq_getElem_cons (by omega)]; rfl
    have h2' : DataW.trod enc Tryz.prog w base spare held m 38 [cs'[2]'(by omega), cs'[3]'(by omega)] = some y2 := by rw [← e2]; exact h2
    have hs2 : Small Tryz.prog 38 y2.1 := small_each hsm (j := 2) rfl (by rw [List.getElem?_map, hy2]; rfl)
    obtain ⟨m', hm'⟩ := struct_trod Tryz.underlying38 (by kernel_rfl) h2' hs2 rfl
    obtain ⟨v0, x0, g0, t0, _⟩ := hm' 0 _ rfl
    obtain ⟨v1, x1, g1, t1, s1⟩ := hm' 1 _ rfl
    obtain ⟨zb, eb, _, _⟩ := DataW.trod_int Tryz.underlying3 t0
    obtain ⟨dv, d, ed, hby, _, hlt⟩ := bytes_trod Tryz.underlying36 (by kernel_rfl) Tryz.underlying5 (by kernel_rfl) t1 s1
    simp only [List.cons.injEq, and_true] at eb ed
    subst eb ed
    have k2 : cs'[2]? = some (.int .i64 zb) := by rw [List.getElem?_eq_getElem (by omega)]; exact g0
    have k3 : cs'[3]? = some v1 := by rw [List.getElem?_eq_getElem (by omega)]; exact g1
    refine ⟨⟨z0, z1, zb, d⟩, g, o, v1, rfl, hg, fun j u hj => ?_, hby, fun k h0 => hlt h0 k⟩
    have hj4 : j < 4 := (Array.getElem?_eq_some_iff.1 hj).1
    rw [hcell j hj4]
    rcases (show j = 0 ∨ j = 1 ∨ j = 2 ∨ j = 3 by omega) with rfl | rfl | rfl | rfl
    · exact hz0.trans hj
    · exact hz1.trans hj
    · exact k2.trans hj
    · exact k3.trans hj
  obtain ⟨L, hL, hR⟩ := choose_list len default _ key
  subst hL
  exact ⟨A, cap, L, rfl, rfl, hl, hm, hR⟩
theorem cacts_val {r : Reach} {b0 : Nat} {v : Value} {d : DataW H} {p : List MemPlace} (hv : Value.okWide Tryz.prog w r b0 26 v) (h : DataW.Trod enc Tryz.prog w base spare held 26 v d p) (hz : Small Tryz.prog 26 d) :
    ∃ A c L, v = .slice A (List.length L) c ∧ CActsAt w.heap.size w A L.length c L := by
  obtain ⟨A, len, cap, rfl⟩ := okWide_slice Tryz.underlying26 hv
  obtain ⟨fuel, hf⟩ := h
  obtain ⟨A', c, L, e1, h1⟩ := cacts_trod hf hz
  refine ⟨A', c, L, ?_, h1⟩
  simpa [Value.cells] using e1
end
end Go.Proofs.YtodephhlhdbeoaaGreat
