/- Several texts, one behind the other: Open. -/
import Derived.ProofKit
import Derived.OpenShut
import Derived.ChangeOld
import Derived.Deep.Slices
import Derived.Deep.Fields
import Derived.Lib.SmallJoins
import Derived.Test.YtodephhlhdbeoaaGreatM1
namespace Go.Proofs.YtodephhlhdbeoaaGreat
open Go.ChangeShapes Go.WideShapes Go.ChangeAt Go.RowKit Go.Deep

def ElemAt (w : World) (A : Option Addr) (C i : Nat) (cs : List Value) : Prop :=
  cs.length = C ∧ ∃ g o, A = some ⟨g, o, none⟩ ∧ g < w.heap.size ∧ ∀ j, j < C → w.cell? ⟨g, o + i * C + j, none⟩ = cs[j]?

section
variable {H : Type} {enc : TypeId × Value → H} {P : Program} {w : World} {base : Nat} {spare : Nat → Bool} {held : Bool}

theorem slice_elems {r : Reach} {b0 : Nat} {t e : TypeId} {C : Nat} {v : Value} {d : DataW H} {p : List MemPlace} (ht : P.underlying t = some (.slice e)) (hC : P.cellsOf e = C) (hC0 : 0 < C)
    (hv : Value.okWide P w r b0 t v) (h : DataW.Trod enc P w base spare held t v d p) :
    ∃ A len cap n, v = .slice A len cap ∧ len ≤ cap ∧ cap ≤ maxLen ∧ ∀ i, i < len → ∃ cs y, ElemAt w A C i cs ∧ DataW.trod enc P w base spare held n e cs = some y := by
  obtain ⟨A, len, cap, rfl⟩ := okWide_slice ht hv
  obtain ⟨fuel, hf⟩ := h
  rcases open_slice ht hf with ⟨h0, _⟩ | ⟨a, l, c, m, n, D, Pl, hcs, hb, hl, hm, hmm, hx, hi⟩
  · simp only [Value.cells, List.cons.injEq, and_true, Value.slice.injEq] at h0
    obtain ⟨rfl, rfl, rfl⟩ := h0
    exact ⟨none, 0, 0, 0, rfl, Nat.le_refl _, Nat.zero_le _, fun i hi => absurd hi (Nat.not_lt_zero _)⟩
  · simp only [Value.cells, List.cons.injEq, and_true, Value.slice.injEq] at hcs
    obtain ⟨rfl, rfl, rfl⟩ := hcs
    refine ⟨some a, len, cap, n, rfl, hl, hm, fun i hil => ?_⟩
    have him : i < m := by rw [hmm]; split <;> omega
    obtain ⟨cs, hc, htr⟩ := hi i him
    rw [hC] at hc
    obtain ⟨_, hlen, hat⟩ := World.cells?_some hc
    have hspot : a.spot = none := by
      by_cases hz : i * C = 0
      · have h0 := hat 0 hC0
        rw [hz] at h0
        obtain ⟨x, hx⟩ : ∃ x, cs[0]? = some x := ⟨cs[0]'(by omega), List.getElem?_eq_getElem (by omega)⟩
        rw [hx] at h0
        have := World.cell?_spot h0
        simpa [Addr.add] using this
      · have hi0 : 0 < i := Nat.pos_of_ne_zero fun e => hz (by rw [e, Nat.zero_mul])
        obtain ⟨cs0, hc0, _⟩ := hi 0 (by omega)
        rw [hC] at hc0
        obtain ⟨_, hlen0, hat0⟩ := World.cells?_some hc0
        have h0 := hat0 0 hC0
        obtain ⟨x, hx⟩ : ∃ x, cs0[0]? = some x := ⟨cs0[0]'(by omega), List.getElem?_eq_getElem (by omega)⟩
        rw [hx] at h0
        have := World.cell?_spot h0
        simpa [Addr.add] using this
    obtain ⟨g, o, sp⟩ := a
    simp only at hspot
    subst hspot
    have hcell : ∀ j, j < C → w.cell? ⟨g, o + i * C + j, none⟩ = cs[j]? := fun j hj => by
      have := hat j hj
      rw [add_add, Addr.add_lit] at this
      rw [Nat.add_assoc]; exact this
    have hg : g < w.heap.size := by
      obtain ⟨x, hx⟩ : ∃ x, cs[0]? = some x := ⟨cs[0]'(by omega), List.getElem?_eq_getElem (by omega)⟩
      have h1 := hcell 0 hC0
      rw [hx] at h1
      exact World.block_lt_of_cell? w _ h1
    exact ⟨cs, _, ⟨hlen, g, o, rfl, hg, hcell⟩, htr⟩

theorem struct_cells {e : TypeId} {fs : Array Field} {n : Nat} {cs : List Value} {y : DataW H × List MemPlace} (hs : P.underlying e = some (.struct fs)) (hone : oneCellFields P fs = true)
    (h : DataW.trod enc P w base spare held n e cs = some y) (hl : cs.length = fs.size) : ∃ m, ∀ (j : Nat) (f : Field), fs[j]? = some f → ∃ v y', cs[j]? = some v ∧ DataW.trod enc P w base spare held m f.type [v] = some y' := by
  obtain ⟨xs, m, _, _, _, hlen, hf⟩ := DataW.trod_struct hs h
  refine ⟨m, fun j f hj => ?_⟩
  obtain ⟨ho, hk⟩ := hone_of hone j f hj
  have hjl : j < fs.size := (Array.getElem?_eq_some_iff.1 hj).1
  have h1 := hf j f hj
  rw [ho, hk] at h1
  have hcs : (cs.drop j).take 1 = [cs[j]'(by omega)] := by
    rw [List.drop_eq_getElem_cons (by omega)]; rfl
  rw [hcs] at h1
  exact ⟨_, _, List.getElem?_eq_getElem (by omega), h1.trans (List.getElem?_eq_getElem (by omega))⟩
end

def Trips (w : World) (A : Option Addr) (L : List (Int × Int × Int)) : Prop :=
  ∀ i, i < L.length → ∃ g o, A = some ⟨g, o, none⟩ ∧ g < w.heap.size ∧ w.cell? ⟨g, o + i * 3, none⟩ = some (.int .i64 (L.getD i (0, 0, 0)).1) ∧
    w.cell? ⟨g, o + i * 3 + 1, none⟩ = some (.int .i64 (L.getD i (0, 0, 0)).2.1) ∧ w.cell? ⟨g, o + i * 3 + 2, none⟩ = some (.int .i64 (L.getD i (0, 0, 0)).2.2)

theorem choose_list {α : Type} (n : Nat) (d : α) (R : Nat → α → Prop) (h : ∀ i, i < n → ∃ a, R i a) : ∃ L : List α, L.length = n ∧ ∀ i, i < n → R i (L.getD i d) := by
  induction n with
  | zero => exact ⟨[], rfl, fun i hi => absurd hi (Nat.not_lt_zero _)⟩
  | succ n ih =>
    obtain ⟨L, hl, hL⟩ := ih fun i hi => h i (by omega)
    obtain ⟨a, ha⟩ := h n (by omega)
    refine ⟨L ++ [a], by simp [hl], fun i hi => ?_⟩
    by_cases hin : i < n
    · have : (L ++ [a]).getD i d = L.getD i d := by simp [List.getD, List.getElem?_append_left (show i < L.length by omega)]
      rw [this]; exact hL i hin
    · obtain rfl : i = n := by omega
      have : (L ++ [a]).getD i d = a := by subst hl; simp
      rw [this]; exact ha

theorem trips_of {H : Type} {enc : TypeId × Value → H} {P : Program} {w : World} {base : Nat} {spare : Nat → Bool} {held : Bool} {r : Reach} {b0 : Nat} {t e ti : TypeId} {fs : Array Field} {v : Value} {d : DataW H} {p : List MemPlace}
    (ht : P.underlying t = some (.slice e)) (hC : P.cellsOf e = 3) (hs : P.underlying e = some (.struct fs)) (hone : oneCellFields P fs = true) (hi : P.underlying ti = some (.int .i64))
    (hfs : fs.map (fun f : Field => f.type) = #[ti, ti, ti]) (hv : Value.okWide P w r b0 t v) (h : DataW.Trod enc P w base spare held t v d p) :
    ∃ A c L, v = .slice A (List.length L) c ∧ L.length ≤ c ∧ c ≤ maxLen ∧ Trips w A L := by
  obtain ⟨A, len, cap, n, rfl, hl, hm, hel⟩ := slice_elems ht hC (by decide) hv h
  have hsz : fs.size = 3 := by have := congrArg Array.size hfs; simpa using this
  have key : ∀ i, i < len → ∃ a : Int × Int × Int, ∃ g o, A = some ⟨g, o, none⟩ ∧ g < w.heap.size ∧ w.cell? ⟨g, o + i * 3, none⟩ = some (.int .i64 a.1) ∧
      w.cell? ⟨g, o + i * 3 + 1, none⟩ = some (.int .i64 a.2.1) ∧ w.cell? ⟨g, o + i * 3 + 2, none⟩ = some (.int .i64 a.2.2) := by
    intro i hil
    obtain ⟨cs, y, ⟨hcl, g, o, rfl, hg, hcell⟩, htr⟩ := hel i hil
    obtain ⟨m, hf⟩ := struct_cells hs hone htr (by omega)
    have fld : ∀ j, j < 3 → ∃ z, w.cell? ⟨g, o + i * 3 + j, none⟩ = some (.int .i64 z) := by
      intro j hj
      obtain ⟨f, hfj⟩ : ∃ f : Field, fs[j]? = some f := ⟨fs[j]'(by omega), Array.getElem?_eq_getElem (by omega)⟩
      obtain ⟨v, y', hv, hty⟩ := hf j f hfj
      have hty' : f.type = ti := by
        have h1 : (fs.map (fun f : Field => f.type))[j]? = some f.type := by simp [hfj]
        rw [hfs] at h1
        rcases (show j = 0 ∨ j = 1 ∨ j = 2 by omega) with rfl | rfl | rfl <;> simpa using h1.symm
      rw [hty'] at hty
      obtain ⟨z, hz, _, _⟩ := DataW.trod_int hi hty
      simp only [List.cons.injEq, and_true] at hz
      exact ⟨z, by rw [hcell j hj, hv, hz]⟩
    obtain ⟨z0, h0⟩ := fld 0 (by omega)
    obtain ⟨z1, h1⟩ := fld 1 (by omega)
    obtain ⟨z2, h2⟩ := fld 2 (by omega)
    exact ⟨(z0, z1, z2), g, o, rfl, hg, h0, h1, h2⟩
  obtain ⟨L, hL, hR⟩ := choose_list len (0, 0, 0) _ key
  subst hL
  exact ⟨A, cap, L, rfl, hl, hm, hR⟩
theorem Trips.keep {S : Nat → Prop} {w w' : World} {A : Option Addr} {L : List (Int × Int × Int)} (h : Trips w A L) (ho : Only S w w') (hS : ∀ k, k < w.heap.size → ¬ S k) : Trips w' A L := by
  intro i hi
  obtain ⟨g, o, e, hg, h0, h1, h2⟩ := h i hi
  have hn := hS g hg
  exact ⟨g, o, e, Nat.lt_of_lt_of_le hg ho.size, ho.cell h0 hn, ho.cell h1 hn, ho.cell h2 hn⟩

theorem pair_of {H : Type} {enc : TypeId × Value → H} {P : Program} {w : World} {base : Nat} {spare : Nat → Bool} {held : Bool} {r : Reach} {b0 : Nat} {t ti : TypeId} {v : Value} {d : DataW H} {p : List MemPlace}
    (ht : P.underlying t = some (.array 2 ti)) (hC : P.cellsOf t = 2) (hi : P.underlying ti = some (.int .i64)) (hC1 : P.cellsOf ti = 1) (hv : Value.okWide P w r b0 t v) (h : DataW.Trod enc P w base spare held t v d p) :
    ∃ x y, v = .agg #[.int .i64 x, .int .i64 y] := by
  simp only [Value.okWide, ht] at hv
  obtain ⟨cs, rfl, hsz, _⟩ := hv
  obtain ⟨c0, c1, rfl⟩ := Go.Joins.array2 (hsz.trans hC)
  obtain ⟨fuel, hf⟩ := h
  obtain ⟨xs, m, _, _, _, hlen, hg⟩ := DataW.trod_array ht hf
  have g0 := hg 0 (by decide)
  have g1 := hg 1 (by decide)
  rw [hC1] at g0 g1
  have x0 : xs[0]? = some (xs[0]'(by omega)) := List.getElem?_eq_getElem (by omega)
  have x1 : xs[1]? = some (xs[1]'(by omega)) := List.getElem?_eq_getElem (by omega)
  rw [x0] at g0
  rw [x1] at g1
  obtain ⟨x, e0, _, _⟩ := DataW.trod_int hi g0
  obtain ⟨y, e1, _, _⟩ := DataW.trod_int hi g1
  simp [Value.cells] at e0 e1
  exact ⟨x, y, by rw [e0, e1]⟩
end Go.Proofs.YtodephhlhdbeoaaGreat
