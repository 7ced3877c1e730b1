/- Arguments: a slice of ints, three ints. No program. -/
import Derived.Test.YtpfegioooibjlaaOpen
namespace Go.Proofs.Ytpfegioooibjlaa
open Go.ChangeShapes Go.WideShapes Go.ChangeAt Go.RowKit Go.Deep
set_option linter.unusedVariables false
section
variable {H : Type} {enc : TypeId × Value → H} {P : Program} {w : World} {base : Nat} {spare : Nat → Bool} {held : Bool} {r : Reach} {b0 : Nat} {v : Value} {d : DataW H} {p : List MemPlace}
theorem ints_arg {t ti : TypeId} (ht : P.underlying t = some (.slice ti)) (hC : P.cellsOf ti = 1) (hi : P.underlying ti = some (.int .i64)) (hv : Value.okWide P w r b0 t v) (h : DataW.Trod enc P w base spare held t v d p) :
    ∃ A c l, v = .slice A (List.length l) c ∧ IntsAt w v l := by
  obtain ⟨A, len, cap, n, rfl, hl, hm, he⟩ := slice_elems ht hC (by decide) hv h
  obtain ⟨l, hlen, hat⟩ := choose_list len (0 : Int) (fun i x => ∃ g o, A = some ⟨g, o, none⟩ ∧ w.cell? ⟨g, o + i, none⟩ = some (.int .i64 x)) (fun i hi2 => by
    obtain ⟨cs, y, ⟨hcl, g, o, rfl, hg, hc⟩, htr⟩ := he i hi2
    obtain ⟨x, e0, _, _⟩ := DataW.trod_int hi htr
    refine ⟨x, g, o, rfl, ?_⟩
    have := hc 0 (by decide)
    rw [e0] at this
    simpa using this)
  subst hlen
  exact ⟨A, cap, l, rfl, A, cap, rfl, hl, hm, fun i hi => hat i hi⟩
theorem three_arg {t ti : TypeId} (ht : P.underlying t = some (.array 3 ti)) (hC : P.cellsOf t = 3) (hi : P.underlying ti = some (.int .i64)) (hC1 : P.cellsOf ti = 1) (hv : Value.okWide P w r b0 t v) (h : DataW.Trod enc P w base spare held t v d p) :
    ∃ x y z, v = .agg #[.int .i64 x, .int .i64 y, .int .i64 z] := by
  simp only [Value.okWide, ht] at hv
  obtain ⟨cs, rfl, hsz, _⟩ := hv
  have hsz3 : cs.size = 3 := hsz.trans hC
  obtain ⟨c0, c1, c2, rfl⟩ : ∃ c0 c1 c2, cs = #[c0, c1, c2] := by
    rcases cs with ⟨l⟩
    match l, hsz3 with
    | [a, b, c], _ => exact ⟨a, b, c, rfl⟩
  obtain ⟨fuel, hf⟩ := h
  obtain ⟨xs, m, _, _, _, hlen, hg⟩ := DataW.trod_array ht hf
  have g0 := hg 0 (by decide)
  have g1 := hg 1 (by decide)
  have g2 := hg 2 (by decide)
  rw [hC1] at g0 g1 g2
  have x0 : xs[0]? = some (xs[0]'(by omega)) := List.getElem?_eq_getElem (by omega)
  have x1 : xs[1]? = some (xs[1]'(by omega)) := List.getElem?_eq_getElem (by omega)
  have x2 : xs[2]? = some (xs[2]'(by omega)) := List.getElem?_eq_getElem (by omega)
  rw [x0] at g0
  rw [x1] at g1
  rw [x2] at g2
  obtain ⟨x, e0, _, _⟩ := DataW.trod_int hi g0
  obtain ⟨y, e1, _, _⟩ := DataW.trod_int hi g1
  obtain ⟨z, e2, _, _⟩ := DataW.trod_int hi g2
  simp [Value.cells] at e0 e1 e2
  exact ⟨x, y, z, by rw [e0, e1, e2]⟩
end
end Go.Proofs.Ytpfegioooibjlaa
