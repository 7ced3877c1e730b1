/- A list of operations among the arguments, opened to cells. -/
import Derived.Test.YthfafegfooibmaaOpen
import Derived.Test.YthfafegfooibmaaHistG
import Derived.SizedLaws
namespace Go.Proofs.Ythfafegfooibmaa
open Go.ChangeShapes Go.WideShapes Go.ChangeAt Go.RowKit Go.Deep
set_option linter.unusedVariables false
def Small {H : Type} (P : Program) (t : TypeId) (d : DataW H) : Prop := (d.weights P t).all (· ≤ reachBytes) = true
section
variable {H : Type} {enc : TypeId × Value → H} {P : Program} {w : World} {base : Nat} {spare : Nat → Bool} {held : Bool}

theorem small_each {ts : List TypeId} {ds : List (DataW H)} (h : (DataW.weightsEach P ts ds).all (· ≤ reachBytes) = true) {j : Nat} {t : TypeId} {d : DataW H} (ht : ts[j]? = some t) (hd : ds[j]? = some d) : Small P t d :=
  List.all_eq_true.2 fun n hn => List.all_eq_true.1 h n (DataW.weights_mem_each ht hd n hn)
theorem weights_mem_all {e : TypeId} : ∀ {ds : List (DataW H)} {d : DataW H}, d ∈ ds → ∀ n ∈ d.weights P e, n ∈ DataW.weightsAll P e ds
  | d0 :: ds, d, hd, n, hn => by
    simp only [DataW.weightsAll, List.mem_append]
    rcases List.mem_cons.1 hd with rfl | hd
    · exact .inl hn
    · exact .inr (weights_mem_all hd n hn)

theorem slice_trod {t e : TypeId} {C fuel : Nat} {cs : List Value} {y : DataW H × List MemPlace} (ht : P.underlying t = some (.slice e)) (hC : P.cellsOf e = C) (hC0 : 0 < C)
    (hf : DataW.trod enc P w base spare held fuel t cs = some y) (hz : Small P t y.1) :
    ∃ A len cap n, cs = [.slice A len cap] ∧ len ≤ cap ∧ cap ≤ maxLen ∧ len * P.bytesOf e ≤ reachBytes ∧
      ∀ i, i < len → ∃ cs' y', ElemAt w A C i cs' ∧ DataW.trod enc P w base spare held n e cs' = some y' ∧ Small P e y'.1 := by
  rcases open_slice ht hf with ⟨rfl, _⟩ | ⟨a, len, cap, m, n, D, Pl, rfl, hb, hl, hm, hmm, rfl, hi⟩
  · exact ⟨none, 0, 0, 0, rfl, Nat.le_refl _, Nat.zero_le _, by simp, fun i hi => absurd hi (Nat.not_lt_zero _)⟩
  · simp only [Small, DataW.weights, ht, List.all_cons, List.all_append, Bool.and_eq_true, decide_eq_true_eq, List.length_map, List.length_range] at hz
    obtain ⟨hz0, hz1, _⟩ := hz
    refine ⟨some a, len, cap, n, rfl, hl, hm, Nat.le_trans (Nat.mul_le_mul_right _ (Nat.le_add_right _ _)) hz0, fun i hil => ?_⟩
    have him : i < m := by rw [hmm]; split <;> omega
    obtain ⟨cs, hc, htr⟩ := hi i him
    have hsm : Small P e (D i) := List.all_eq_true.2 fun k hk => List.all_eq_true.1 hz1 k (weights_mem_all (List.mem_map.2 ⟨i, List.mem_range.2 hil, rfl⟩) k hk)
    rw [hC] at hc
    obtain ⟨_, hlen, hat⟩ := World.cells?_some hc
    have hspot : a.spot = none := by
      by_cases hz : i * C = 0
      · have h0 := hat 0 hC0
        rw [hz] at h0
        obtain ⟨x, hx⟩ : ∃ x, cs[0]? = some x := ⟨cs[0]'(by omega), List.getElem?_eq_getElem (by omega)⟩
        rw [hx] at h0
        have := World.cell?_spot h0
        simpa [Addr.add] using this
      · have hi0 : 0 < i := Nat.pos_of_ne_zero fun e => hz (by rw [e, Nat.zero_mul])
        obtain ⟨cs0, hc0, _⟩ := hi 0 (by omega)
        rw [hC] at hc0
        obtain ⟨_, hlen0, hat0⟩ := World.cells?_some hc0
        have h0 := hat0 0 hC0
        obtain ⟨x, hx⟩ : ∃ x, cs0[0]? = some x := ⟨cs0[0]'(by omega), List.getElem?_eq_getElem (by omega)⟩
        rw [hx] at h0
        have := World.cell?_spot h0
        simpa [Addr.add] using this
    obtain ⟨g, o, sp⟩ := a
    simp only at hspot
    subst hspot
    have hcell : ∀ j, j < C → w.cell? ⟨g, o + i * C + j, none⟩ = cs[j]? := fun j hj => by
      have := hat j hj
      rw [add_add, Addr.add_lit] at this
      rw [Nat.add_assoc]; exact this
    have hg : g < w.heap.size := by
      obtain ⟨x, hx⟩ : ∃ x, cs[0]? = some x := ⟨cs[0]'(by omega), List.getElem?_eq_getElem (by omega)⟩
      have h1 := hcell 0 hC0
      rw [hx] at h1
      exact World.block_lt_of_cell? w _ h1
    exact ⟨cs, _, ⟨hlen, g, o, rfl, hg, hcell⟩, htr, hsm⟩

theorem struct_trod {e : TypeId} {fs : Array Field} {n : Nat} {cs : List Value} {y : DataW H × List MemPlace} (hs : P.underlying e = some (.struct fs)) (hone : oneCellFields P fs = true)
    (h : DataW.trod enc P w base spare held n e cs = some y) (hz : Small P e y.1) (hl : cs.length = fs.size) :
    ∃ m, ∀ (j : Nat) (f : Field), fs[j]? = some f → ∃ v y', cs[j]? = some v ∧ DataW.trod enc P w base spare held m f.type [v] = some y' ∧ Small P f.type y'.1 := by
  obtain ⟨xs, m, _, rfl, _, hlen, hf⟩ := DataW.trod_struct hs h
  simp only [Small, DataW.weights, hs] at hz
  refine ⟨m, fun j f hj => ?_⟩
  obtain ⟨ho, hk⟩ := hone_of hone j f hj
  have hjl : j < fs.size := (Array.getElem?_eq_some_iff.1 hj).1
  have h1 := hf j f hj
  rw [ho, hk] at h1
  have hcs : (cs.drop j).take 1 = [cs[j]'(by omega)] := by
    rw [List.drop_eq_getElem_cons (by omega)]; rfl
  rw [hcs] at h1
  have hxj : xs[j]? = some (xs[j]'(by omega)) := List.getElem?_eq_getElem (by omega)
  refine ⟨_, _, List.getElem?_eq_getElem (by omega), h1.trans hxj, small_each hz (j := j) ?_ ?_⟩
  · rw [List.getElem?_map, Array.getElem?_toList, hj]; rfl
  · rw [List.getElem?_map, hxj]; rfl

theorem ElemAt.one {A : Option Addr} {i : Nat} {cs : List Value} (h : ElemAt w A 1 i cs) : ∃ v g o, cs = [v] ∧ A = some ⟨g, o, none⟩ ∧ g < w.heap.size ∧ w.cell? ⟨g, o + i, none⟩ = some v := by
  obtain ⟨hl, g, o, e, hg, hc⟩ := h
  obtain ⟨v, rfl⟩ := List.length_eq_one_iff.1 hl
  have := hc 0 (by omega)
  rw [Nat.mul_one, Nat.add_zero] at this
  exact ⟨v, g, o, rfl, e, hg, this⟩

/-- a slice of bytes -/
theorem bytes_trod {t e : TypeId} {fuel : Nat} {cs : List Value} {y : DataW H × List MemPlace} (ht : P.underlying t = some (.slice e)) (hC : P.cellsOf e = 1) (hi : P.underlying e = some (.int .u8)) (hby : P.bytesOf e = 1)
    (hf : DataW.trod enc P w base spare held fuel t cs = some y) (hz : Small P t y.1) :
    ∃ v l, cs = [v] ∧ Byt w v l ∧ (∀ x ∈ l, 0 ≤ x ∧ x ≤ 255) ∧ (0 < l.length → ∀ k, ownB v k → k < w.heap.size) := by
  obtain ⟨A, len, cap, n, rfl, hl, hm, hsz, hel⟩ := slice_trod ht hC (by decide) hf hz
  rw [hby, Nat.mul_one] at hsz
  have key : ∀ i, i < len → ∃ z : Int, (∃ g o, A = some ⟨g, o, none⟩ ∧ g < w.heap.size ∧ w.cell? ⟨g, o + i, none⟩ = some (.int .u8 z)) ∧ 0 ≤ z ∧ z ≤ 255 := by
    intro i hil
    obtain ⟨cs', y', hea, htr, _⟩ := hel i hil
    obtain ⟨v, g, o, rfl, rfl, hg, hc⟩ := hea.one
    obtain ⟨z, hz, _, hwf⟩ := DataW.trod_int hi htr
    simp only [List.cons.injEq, and_true] at hz
    subst hz
    have hwf' : 0 ≤ z ∧ z ≤ 255 := by simpa [Lit.wf, IntKind.min, IntKind.max, IntKind.signed, IntKind.bits] using hwf
    exact ⟨z, ⟨g, o, rfl, hg, hc⟩, hwf'⟩
  obtain ⟨L, hL, hR⟩ := choose_list len 0 _ key
  subst hL
  have hr : reachBytes ≤ 140737488355328 := by decide
  refine ⟨_, L, rfl, ⟨A, cap, rfl, hl, by omega, ?_⟩, ?_, ?_⟩
  · intro j u hj
    rw [List.getElem?_map] at hj
    obtain ⟨z, hz, rfl⟩ := Option.map_eq_some_iff.1 hj
    have hjl : j < L.length := (List.getElem?_eq_some_iff.1 hz).1
    obtain ⟨⟨g, o, e, _, hc⟩, _⟩ := hR j hjl
    have : L.getD j 0 = z := by simp [hz]
    rw [this] at hc
    exact ⟨g, o, e, hc⟩
  · intro x hx
    obtain ⟨j, hj, rfl⟩ := List.mem_iff_getElem.1 hx
    have := (hR j hj).2
    simpa [hj] using this
  · intro hz k hk
    obtain ⟨⟨g, o, e, hg, _⟩, _⟩ := hR 0 hz
    subst e
    rw [ownB_slice] at hk
    omega


end
section
variable {H : Type} {enc : TypeId × Value → H} {w : World} {base : Nat} {spare : Nat → Bool} {held : Bool}
def IsB (l : List Int) : Prop := ∀ x ∈ l, 0 ≤ x ∧ x ≤ 255
theorem dones_trod {fuel : Nat} {cs : List Value} {y : DataW H × List MemPlace} (hf : DataW.trod enc Try.prog w base spare held fuel 22 cs = some y) (hz : Small Try.prog 22 y.1) :
    ∃ A c L, cs = [.slice A (List.length L) c] ∧ DonesAt w A L.length c L := by
  obtain ⟨A, len, cap, n, rfl, hl, hm, hsz, hel⟩ := slice_trod (C := 10) Try.underlying22 (by kernel_rfl) (by decide) hf hz
  have key : ∀ i, i < len → ∃ a : DoneR, (∃ g o dA dc, A = some ⟨g, o, none⟩ ∧ g < w.heap.size ∧ (∀ j v, (doneC a (.slice dA a.data.length dc))[j]? = some v → w.cell? ⟨g, o + i * 10 + j, none⟩ = some v) ∧ Byt w (.slice dA a.data.length dc) a.data) := by
    intro i hil
    obtain ⟨cs', y', ⟨hcl, g, o, rfl, hg, hcell⟩, htr, hsm⟩ := hel i hil
    obtain ⟨m, hm⟩ := struct_trod Try.underlying33 (by kernel_rfl) htr hsm hcl
    obtain ⟨v0, y0, h0, t0, _⟩ := hm 0 _ rfl
    obtain ⟨v1, y1, h1, t1, _⟩ := hm 1 _ rfl
    obtain ⟨v2, y2, h2, t2, _⟩ := hm 2 _ rfl
    obtain ⟨v3, y3, h3, t3, _⟩ := hm 3 _ rfl
    obtain ⟨v4, y4, h4, t4, _⟩ := hm 4 _ rfl
    obtain ⟨v5, y5, h5, t5, s5⟩ := hm 5 _ rfl
    obtain ⟨v6, y6, h6, t6, _⟩ := hm 6 _ rfl
    obtain ⟨v7, y7, h7, t7, _⟩ := hm 7 _ rfl
    obtain ⟨v8, y8, h8, t8, _⟩ := hm 8 _ rfl
    obtain ⟨v9, y9, h9, t9, _⟩ := hm 9 _ rfl
    obtain ⟨z0, e0, _, _⟩ := DataW.trod_int Try.underlying3 t0
    obtain ⟨z1, e1, _, _⟩ := DataW.trod_int Try.underlying3 t1
    obtain ⟨z2, e2, _, _⟩ := DataW.trod_int Try.underlying3 t2
    obtain ⟨z3, e3, _⟩ := DataW.trod_bool Try.underlying4 t3
    obtain ⟨z4, e4, _, _⟩ := DataW.trod_int Try.underlying3 t4
    obtain ⟨z6, e6, _, _⟩ := DataW.trod_int Try.underlying25 t6
    obtain ⟨z7, e7, _, _⟩ := DataW.trod_int Try.underlying3 t7
    obtain ⟨z8, e8, _, _⟩ := DataW.trod_int Try.underlying3 t8
    obtain ⟨z9, e9, _⟩ := DataW.trod_bool Try.underlying4 t9
    obtain ⟨v, d, e5, hby, hrng, _⟩ := bytes_trod Try.underlying31 (by kernel_rfl) Try.underlying5 (by kernel_rfl) t5 s5
    simp only [List.cons.injEq, and_true] at e0 e1 e2 e3 e4 e5 e6 e7 e8 e9
    subst e0 e1 e2 e3 e4 e5 e6 e7 e8 e9
    have hby' := hby
    obtain ⟨dA, dc, rfl, _⟩ := hby
    refine ⟨⟨z0, z1, z2, z3, z4, d, z6, z7, z8, z9⟩, g, o, dA, dc, rfl, hg, fun j v hv => ?_, hby'⟩
    have hj : j < 10 := by
      have := (Array.getElem?_eq_some_iff.1 hv).1
      simpa [doneC] using this
    rw [hcell j hj]
    rcases (show j = 0 ∨ j = 1 ∨ j = 2 ∨ j = 3 ∨ j = 4 ∨ j = 5 ∨ j = 6 ∨ j = 7 ∨ j = 8 ∨ j = 9 by omega) with rfl | rfl | rfl | rfl | rfl | rfl | rfl | rfl | rfl | rfl
    · exact h0.trans hv
    · exact h1.trans hv
    · exact h2.trans hv
    · exact h3.trans hv
    · exact h4.trans hv
    · exact h5.trans hv
    · exact h6.trans hv
    · exact h7.trans hv
    · exact h8.trans hv
    · exact h9.trans hv
  obtain ⟨L, hL, hR⟩ := choose_list len default _ key
  subst hL
  exact ⟨A, cap, L, rfl, rfl, hl, hm, hR⟩
theorem dones_val {r : Reach} {b0 : Nat} {v : Value} {d : DataW H} {p : List MemPlace} (hv : Value.okWide Try.prog w r b0 22 v) (h : DataW.Trod enc Try.prog w base spare held 22 v d p) (hz : Small Try.prog 22 d) :
    ∃ A c L, v = .slice A (List.length L) c ∧ DonesAt w A L.length c L := by
  obtain ⟨A, len, cap, rfl⟩ := okWide_slice Try.underlying22 hv
  obtain ⟨fuel, hf⟩ := h
  obtain ⟨A', c, L, e1, h1⟩ := dones_trod hf hz
  refine ⟨A', c, L, ?_, h1⟩
  simpa [Value.cells] using e1
theorem bytes_val {r : Reach} {b0 : Nat} {v : Value} {d : DataW H} {p : List MemPlace} (hv : Value.okWide Try.prog w r b0 31 v) (h : DataW.Trod enc Try.prog w base spare held 31 v d p) (hz : Small Try.prog 31 d) :
    ∃ l, Byt w v l ∧ IsB l := by
  obtain ⟨A, len, cap, rfl⟩ := okWide_slice Try.underlying31 hv
  obtain ⟨fuel, hf⟩ := h
  obtain ⟨v', l, e1, h1, h2, _⟩ := bytes_trod Try.underlying31 (by kernel_rfl) Try.underlying5 (by kernel_rfl) hf hz
  have e1' : Value.slice A len cap = v' := by simpa [Value.cells] using e1
  subst e1'
  exact ⟨l, h1, h2⟩
end
end Go.Proofs.Ythfafegfooibmaa
