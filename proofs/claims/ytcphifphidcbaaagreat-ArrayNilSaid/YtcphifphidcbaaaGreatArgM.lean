/- A message among the arguments, opened to cells. -/
import Derived.Test.YtcphifphidcbaaaGreatArgB
import Derived.Test.YtcphifphidcbaaaGreatMsgC
namespace Go.Proofs.YtcphifphidcbaaaGreat
open Go.ChangeShapes Go.WideShapes Go.ChangeAt Go.RowKit Go.Deep
set_option linter.unusedVariables false
set_option maxRecDepth 100000
section
variable {H : Type} {enc : TypeId × Value → H} {w : World} {base : Nat} {spare : Nat → Bool} {held : Bool}
theorem msg_val {r : Reach} {b0 : Nat} {v : Value} {d : DataW H} {p : List MemPlace} (hv : Value.okWide Tryz.prog w r b0 25 v) (h : DataW.Trod enc Tryz.prog w base spare held 25 v d p) (hz : Small Tryz.prog 25 d) :
    ∃ m A c l, v = .agg (msgC m (.slice A (List.length l) c)) ∧ Byt w (.slice A l.length c) l := by
  obtain ⟨cs, rfl, hsz⟩ := okWide_struct Tryz.underlying25 hv
  have hsz : cs.size = 11 := hsz.trans (by kernel_rfl)
  obtain ⟨fuel, hf⟩ := h
  obtain ⟨m, hm⟩ := struct_trod Tryz.underlying25 (by kernel_rfl) hf hz hsz
  obtain ⟨v0, y0, h0, t0, _⟩ := hm 0 _ rfl
  obtain ⟨v1, y1, h1, t1, _⟩ := hm 1 _ rfl
  obtain ⟨v2, y2, h2, t2, _⟩ := hm 2 _ rfl
  obtain ⟨v3, y3, h3, t3, _⟩ := hm 3 _ rfl
  obtain ⟨v4, y4, h4, t4, _⟩ := hm 4 _ rfl
  obtain ⟨v5, y5, h5, t5, _⟩ := hm 5 _ rfl
  obtain ⟨v6, y6, h6, t6, _⟩ := hm 6 _ rfl
  obtain ⟨v7, y7, h7, t7, _⟩ := hm 7 _ rfl
  obtain ⟨v8, y8, h8, t8, _⟩ := hm 8 _ rfl
  obtain ⟨v9, y9, h9, t9, _⟩ := hm 9 _ rfl
  obtain ⟨v10, y10, h10, t10, s10⟩ := hm 10 _ rfl
  obtain ⟨z0, e0, _, _⟩ := DataW.trod_int Tryz.underlying3 t0
  obtain ⟨z1, e1, _, _⟩ := DataW.trod_int Tryz.underlying3 t1
  obtain ⟨z2, e2, _, _⟩ := DataW.trod_int Tryz.underlying3 t2
  obtain ⟨z3, e3, _, _⟩ := DataW.trod_int Tryz.underlying3 t3
  obtain ⟨z4, e4, _, _⟩ := DataW.trod_int Tryz.underlying3 t4
  obtain ⟨z5, e5, _, _⟩ := DataW.trod_int Tryz.underlying3 t5
  obtain ⟨z6, e6, _, _⟩ := DataW.trod_int Tryz.underlying3 t6
  obtain ⟨z7, e7, _, _⟩ := DataW.trod_int Tryz.underlying3 t7
  obtain ⟨z8, e8, _, _⟩ := DataW.trod_int Tryz.underlying22 t8
  obtain ⟨z9, e9, _⟩ := DataW.trod_bool Tryz.underlying4 t9
  obtain ⟨v, l, e10, hb, _, _⟩ := bytes_trod Tryz.underlying23 (by kernel_rfl) Tryz.underlying5 (by kernel_rfl) t10 s10
  simp only [List.cons.injEq, and_true] at e0 e1 e2 e3 e4 e5 e6 e7 e8 e9 e10
  subst e0 e1 e2 e3 e4 e5 e6 e7 e8 e9 e10
  obtain ⟨A, c, rfl, _⟩ := id hb
  refine ⟨⟨fun i => [z0, z1, z2, z3, z4, z5, z6, z7, z8].getD i 0, z9⟩, A, c, l, ?_, hb⟩
  rw [Value.agg.injEq]
  refine Array.ext' (List.ext_getElem? fun i => ?_)
  by_cases hi : i < 11
  · rcases (show i = 0 ∨ i = 1 ∨ i = 2 ∨ i = 3 ∨ i = 4 ∨ i = 5 ∨ i = 6 ∨ i = 7 ∨ i = 8 ∨ i = 9 ∨ i = 10 by omega) with rfl | rfl | rfl | rfl | rfl | rfl | rfl | rfl | rfl | rfl | rfl
    · exact h0
    · exact h1
    · exact h2
    · exact h3
    · exact h4
    · exact h5
    · exact h6
    · exact h7
    · exact h8
    · exact h9
    · exact h10
  · rw [List.getElem?_eq_none (by simpa [hsz] using hi), List.getElem?_eq_none (by simpa [msgC] using hi)]
end
end Go.Proofs.YtcphifphidcbaaaGreat
