/- Arguments that hold slices of slices, opened to cells. No program. -/
import Derived.Test.YtlagccfllnhgbaaOpen
import Derived.Test.YtlagccfllnhgbaaNetD
import Derived.SizedLaws
namespace Go.Proofs.Ytlagccfllnhgbaa
open Go.ChangeShapes Go.WideShapes Go.ChangeAt Go.RowKit Go.Deep
set_option linter.unusedVariables false

def Small {H : Type} (P : Program) (t : TypeId) (d : DataW H) : Prop := (d.weights P t).all (· ≤ reachBytes) = true
section
variable {H : Type} {enc : TypeId × Value → H} {P : Program} {w : World} {base : Nat} {spare : Nat → Bool} {held : Bool}

theorem small_each {ts : List TypeId} {ds : List (DataW H)} (h : (DataW.weightsEach P ts ds).all (· ≤ reachBytes) = true) {j : Nat} {t : TypeId} {d : DataW H} (ht : ts[j]? = some t) (hd : ds[j]? = some d) : Small P t d :=
  List.all_eq_true.2 fun n hn => List.all_eq_true.1 h n (DataW.weights_mem_each ht hd n hn)
theorem weights_mem_all {e : TypeId} : ∀ {ds : List (DataW H)} {d : DataW H}, d ∈ ds → ∀ n ∈ d.weights P e, n ∈ DataW.weightsAll P e ds
  | d0 :: ds, d, hd, n, hn => by
    simp only [DataW.weightsAll, List.mem_append]
    rcases List.mem_cons.1 hd with rfl | hd
    · exact .inl hn
    · exact .inr (weights_mem_all hd n hn)

theorem slice_trod {t e : TypeId} {C fuel : Nat} {cs : List Value} {y : DataW H × List MemPlace} (ht : P.underlying t = some (.slice e)) (hC : P.cellsOf e = C) (hC0 : 0 < C)
    (hf : DataW.trod enc P w base spare held fuel t cs = some y) (hz : Small P t y.1) :
    ∃ A len cap n, cs = [.slice A len cap] ∧ len ≤ cap ∧ cap ≤ maxLen ∧ len * P.bytesOf e ≤ reachBytes ∧
      ∀ i, i < len → ∃ cs' y', ElemAt w A C i cs' ∧ DataW.trod enc P w base spare held n e cs' = some y' ∧ Small P e y'.1 := by
  rcases open_slice ht hf with ⟨rfl, _⟩ | ⟨a, len, cap, m, n, D, Pl, rfl, hb, hl, hm, hmm, rfl, hi⟩
  · exact ⟨none, 0, 0, 0, rfl, Nat.le_refl _, Nat.zero_le _, by simp, fun i hi => absurd hi (Nat.not_lt_zero _)⟩
  · simp only [Small, DataW.weights, ht, List.all_cons, List.all_append, Bool.and_eq_true, decide_eq_true_eq, List.length_map, List.length_range] at hz
    obtain ⟨hz0, hz1, _⟩ := hz
    refine ⟨some a, len, cap, n, rfl, hl, hm, Nat.le_trans (Nat.mul_le_mul_right _ (Nat.le_add_right _ _)) hz0, fun i hil => ?_⟩
    have him : i < m := by rw [hmm]; split <;> omega
    obtain ⟨cs, hc, htr⟩ := hi i him
    have hsm : Small P e (D i) := List.all_eq_true.2 fun k hk => List.all_eq_true.1 hz1 k (weights_mem_all (List.mem_map.2 ⟨i, List.mem_range.2 hil, rfl⟩) k hk)
    rw [hC] at hc
    obtain ⟨_, hlen, hat⟩ := World.cells?_some hc
    have hspot : a.spot = none := by
      by_cases hz : i * C = 0
      · have h0 := hat 0 hC0
        rw [hz] at h0
        obtain ⟨x, hx⟩ : ∃ x, cs[0]? = some x := ⟨cs[0]'(by omega), List.getElem?_eq_getElem (by omega)⟩
        rw [hx] at h0
        have := World.cell?_spot h0
        simpa [Addr.add] using this
      · have hi0 : 0 < i := Nat.pos_of_ne_zero fun e => hz (by rw [e, Nat.zero_mul])
        obtain ⟨cs0, hc0, _⟩ := hi 0 (by omega)
        rw [hC] at hc0
        obtain ⟨_, hlen0, hat0⟩ := World.cells?_some hc0
        have h0 := hat0 0 hC0
        obtain ⟨x, hx⟩ : ∃ x, cs0[0]? = some x := ⟨cs0[0]'(by omega), List.getElem?_eq_getElem (by omega)⟩
        rw [hx] at h0
        have := World.cell?_spot h0
        simpa [Addr.add] using this
    obtain ⟨g, o, sp⟩ := a
    simp only at hspot
    subst hspot
    have hcell : ∀ j, j < C → w.cell? ⟨g, o + i * C + j, none⟩ = cs[j]? := fun j hj => by
      have := hat j hj
      rw [add_add, Addr.add_lit] at this
      rw [Nat.add_assoc]; exact this
    have hg : g < w.heap.size := by
      obtain ⟨x, hx⟩ : ∃ x, cs[0]? = some x := ⟨cs[0]'(by omega), List.getElem?_eq_getElem (by omega)⟩
      have h1 := hcell 0 hC0
      rw [hx] at h1
      exact World.block_lt_of_cell? w _ h1
    exact ⟨cs, _, ⟨hlen, g, o, rfl, hg, hcell⟩, htr, hsm⟩

theorem struct_trod {e : TypeId} {fs : Array Field} {n : Nat} {cs : List Value} {y : DataW H × List MemPlace} (hs : P.underlying e = some (.struct fs)) (hone : oneCellFields P fs = true)
    (h : DataW.trod enc P w base spare held n e cs = some y) (hz : Small P e y.1) (hl : cs.length = fs.size) :
    ∃ m, ∀ (j : Nat) (f : Field), fs[j]? = some f → ∃ v y', cs[j]? = some v ∧ DataW.trod enc P w base spare held m f.type [v] = some y' ∧ Small P f.type y'.1 := by
  obtain ⟨xs, m, _, rfl, _, hlen, hf⟩ := DataW.trod_struct hs h
  simp only [Small, DataW.weights, hs] at hz
  refine ⟨m, fun j f hj => ?_⟩
  obtain ⟨ho, hk⟩ := hone_of hone j f hj
  have hjl : j < fs.size := (Array.getElem?_eq_some_iff.1 hj).1
  have h1 := hf j f hj
  rw [ho, hk] at h1
  have hcs : (cs.drop j).take 1 = [cs[j]'(by omega)] := by
    rw [List.drop_eq_getElem_cons (by omega)]; rfl
  rw [hcs] at h1
  have hxj : xs[j]? = some (xs[j]'(by omega)) := List.getElem?_eq_getElem (by omega)
  refine ⟨_, _, List.getElem?_eq_getElem (by omega), h1.trans hxj, small_each hz (j := j) ?_ ?_⟩
  · rw [List.getElem?_map, Array.getElem?_toList, hj]; rfl
  · rw [List.getElem?_map, hxj]; rfl

theorem ElemAt.one {A : Option Addr} {i : Nat} {cs : List Value} (h : ElemAt w A 1 i cs) : ∃ v g o, cs = [v] ∧ A = some ⟨g, o, none⟩ ∧ g < w.heap.size ∧ w.cell? ⟨g, o + i, none⟩ = some v := by
  obtain ⟨hl, g, o, e, hg, hc⟩ := h
  obtain ⟨v, rfl⟩ := List.length_eq_one_iff.1 hl
  have := hc 0 (by omega)
  rw [Nat.mul_one, Nat.add_zero] at this
  exact ⟨v, g, o, rfl, e, hg, this⟩

/-- a slice of bytes -/
theorem bytes_trod {t e : TypeId} {fuel : Nat} {cs : List Value} {y : DataW H × List MemPlace} (ht : P.underlying t = some (.slice e)) (hC : P.cellsOf e = 1) (hi : P.underlying e = some (.int .u8)) (hby : P.bytesOf e = 1)
    (hf : DataW.trod enc P w base spare held fuel t cs = some y) (hz : Small P t y.1) :
    ∃ v l, cs = [v] ∧ Byt w v l ∧ (∀ x ∈ l, 0 ≤ x ∧ x ≤ 255) ∧ (0 < l.length → ∀ k, ownB v k → k < w.heap.size) := by
  obtain ⟨A, len, cap, n, rfl, hl, hm, hsz, hel⟩ := slice_trod ht hC (by decide) hf hz
  rw [hby, Nat.mul_one] at hsz
  have key : ∀ i, i < len → ∃ z : Int, (∃ g o, A = some ⟨g, o, none⟩ ∧ g < w.heap.size ∧ w.cell? ⟨g, o + i, none⟩ = some (.int .u8 z)) ∧ 0 ≤ z ∧ z ≤ 255 := by
    intro i hil
    obtain ⟨cs', y', hea, htr, _⟩ := hel i hil
    obtain ⟨v, g, o, rfl, rfl, hg, hc⟩ := hea.one
    obtain ⟨z, hz, _, hwf⟩ := DataW.trod_int hi htr
    simp only [List.cons.injEq, and_true] at hz
    subst hz
    have hwf' : 0 ≤ z ∧ z ≤ 255 := by simpa [Lit.wf, IntKind.min, IntKind.max, IntKind.signed, IntKind.bits] using hwf
    exact ⟨z, ⟨g, o, rfl, hg, hc⟩, hwf'⟩
  obtain ⟨L, hL, hR⟩ := choose_list len 0 _ key
  subst hL
  have hr : reachBytes ≤ 140737488355328 := by decide
  refine ⟨_, L, rfl, ⟨A, cap, rfl, hl, by omega, ?_⟩, ?_, ?_⟩
  · intro j u hj
    rw [List.getElem?_map] at hj
    obtain ⟨z, hz, rfl⟩ := Option.map_eq_some_iff.1 hj
    have hjl : j < L.length := (List.getElem?_eq_some_iff.1 hz).1
    obtain ⟨⟨g, o, e, _, hc⟩, _⟩ := hR j hjl
    have : L.getD j 0 = z := by simp [hz]
    rw [this] at hc
    exact ⟨g, o, e, hc⟩
  · intro x hx
    obtain ⟨j, hj, rfl⟩ := List.mem_iff_getElem.1 hx
    have := (hR j hj).2
    simpa [hj] using this
  · intro hz k hk
    obtain ⟨⟨g, o, e, hg, _⟩, _⟩ := hR 0 hz
    subst e
    rw [ownB_slice] at hk
    omega

/-- A list of frames that came in: all lies below base. -/
structure Fin (w : World) (base : Nat) (A : Option Addr) (fs : List Value) (ls : List (List Int)) : Prop where
  len : fs.length = ls.length
  src : Src w A fs
  far : 0 < ls.length → ∀ g o, A = some ⟨g, o, none⟩ → g < base
  byt : ∀ i, i < ls.length → Byt w (fs.getD i undef) (ls.getD i [])
  bfar : ∀ i, i < ls.length → 0 < (ls.getD i []).length → ∀ k, ownB (fs.getD i undef) k → k < base
  rng : ∀ i, i < ls.length → ∀ x ∈ ls.getD i [], 0 ≤ x ∧ x ≤ 255
theorem Fin.only {S : Nat → Prop} {w w' : World} {base : Nat} {A : Option Addr} {fs : List Value} {ls : List (List Int)} (h : Fin w base A fs ls) (ho : Only S w w') (hS : ∀ k, S k → base ≤ k) : Fin w' base A fs ls :=
  ⟨h.len, h.src.keep ho fun hz g o e _ hs => absurd (h.far (by rw [← h.len]; exact hz) g o e) (by have := hS g hs; omega), h.far, fun i hi => (h.byt i hi).keep ho fun hz k hk _ hs => absurd (h.bfar i hi hz k hk) (by have := hS k hs; omega), h.bfar, h.rng⟩
theorem Fin.frs {w : World} {base : Nat} {F : Nat → Prop} {A : Option Addr} {fs : List Value} {ls : List (List Int)} (h : Fin w base A fs ls) (hF : ∀ k, F k → base ≤ k) : Frs w F A fs ls :=
  ⟨h.len, h.src, fun hz g o e _ hs => absurd (h.far hz g o e) (by have := hF g hs; omega), h.byt, fun i hi hz k hk _ hs => absurd (h.bfar i hi hz k hk) (by have := hF k hs; omega)⟩

theorem frames_trod {t e b : TypeId} {fuel : Nat} {cs : List Value} {y : DataW H × List MemPlace} (ht : P.underlying t = some (.slice e)) (hC : P.cellsOf e = 1) (he : P.underlying e = some (.slice b)) (hCb : P.cellsOf b = 1)
    (hb : P.underlying b = some (.int .u8)) (hby : P.bytesOf b = 1) (hf : DataW.trod enc P w base spare held fuel t cs = some y) (hz : Small P t y.1) :
    ∃ A c fs ls, cs = [.slice A (List.length ls) c] ∧ ls.length ≤ c ∧ c ≤ maxLen ∧ Fin w w.heap.size A fs ls := by
  obtain ⟨A, len, cap, n, rfl, hl, hm, hsz, hel⟩ := slice_trod ht hC (by decide) hf hz
  have key : ∀ i, i < len → ∃ z : Value × List Int, (∃ g o, A = some ⟨g, o, none⟩ ∧ g < w.heap.size ∧ w.cell? ⟨g, o + i, none⟩ = some z.1) ∧ Byt w z.1 z.2 ∧ (∀ x ∈ z.2, 0 ≤ x ∧ x ≤ 255) ∧ (0 < z.2.length → ∀ k, ownB z.1 k → k < w.heap.size) := by
    intro i hil
    obtain ⟨cs', y', hea, htr, hsm⟩ := hel i hil
    obtain ⟨v, g, o, rfl, rfl, hg, hc⟩ := hea.one
    obtain ⟨v', l, e1, h1, h2, h3⟩ := bytes_trod he hCb hb hby htr hsm
    simp only [List.cons.injEq, and_true] at e1
    subst e1
    exact ⟨(v, l), ⟨g, o, rfl, hg, hc⟩, h1, h2, h3⟩
  obtain ⟨L, hL, hR⟩ := choose_list len (undef, []) _ key
  subst hL
  have e1 : ∀ i, i < L.length → (L.map (·.1)).getD i undef = (L.getD i (undef, [])).1 := fun i hi => by simp [hi]
  have e2 : ∀ i, i < L.length → (L.map (·.2)).getD i [] = (L.getD i (undef, [])).2 := fun i hi => by simp [hi]
  refine ⟨A, cap, L.map (·.1), L.map (·.2), by rw [List.length_map], by rw [List.length_map]; exact hl, hm, by simp, ?_, ?_, ?_, ?_, ?_⟩
  · intro j u hj
    rw [List.getElem?_map] at hj
    obtain ⟨z, hz, rfl⟩ := Option.map_eq_some_iff.1 hj
    have hjl : j < L.length := (List.getElem?_eq_some_iff.1 hz).1
    obtain ⟨⟨g, o, e, _, hc⟩, _⟩ := hR j hjl
    have : L.getD j (undef, []) = z := by simp [hz]
    rw [this] at hc
    exact ⟨g, o, e, hc⟩
  · intro hz g o e
    rw [List.length_map] at hz
    obtain ⟨⟨g', o', e', hg, _⟩, _⟩ := hR 0 hz
    rw [e] at e'
    injection e' with e'
    injection e' with e'
    omega
  · intro i hi
    rw [List.length_map] at hi
    rw [e1 i hi, e2 i hi]; exact (hR i hi).2.1
  · intro i hi
    rw [List.length_map] at hi
    rw [e1 i hi, e2 i hi]; exact (hR i hi).2.2.2
  · intro i hi
    rw [List.length_map] at hi
    rw [e2 i hi]; exact (hR i hi).2.2.1

/-- an act: four numbers and a list of frames -/
theorem act_cells {t ti tL : TypeId} {fs : Array Field} {n : Nat} {cs : List Value} {y : DataW H × List MemPlace} (hs : P.underlying t = some (.struct fs)) (hone : oneCellFields P fs = true) (hi : P.underlying ti = some (.int .i64))
    (hfs : fs.map (fun f : Field => f.type) = #[ti, ti, ti, ti, tL]) (hl : cs.length = 5) (hf : DataW.trod enc P w base spare held n t cs = some y) (hz : Small P t y.1) :
    ∃ x0 x1 x2 x3 vL m y', cs = [.int .i64 x0, .int .i64 x1, .int .i64 x2, .int .i64 x3, vL] ∧ DataW.trod enc P w base spare held m tL [vL] = some y' ∧ Small P tL y'.1 := by
  have hsz : fs.size = 5 := by have := congrArg Array.size hfs; simpa using this
  obtain ⟨m, hm⟩ := struct_trod hs hone hf hz (by omega)
  have ty : ∀ (j : Nat) (f : Field), fs[j]? = some f → (#[ti, ti, ti, ti, tL] : Array TypeId)[j]? = some f.type := fun j f hj => by rw [← hfs]; simp [hj]
  have fl : ∀ j, j < 5 → ∃ f : Field, fs[j]? = some f := fun j hj => ⟨fs[j]'(by omega), Array.getElem?_eq_getElem (by omega)⟩
  have num : ∀ j, j < 4 → ∃ x, cs[j]? = some (.int .i64 x) := by
    intro j hj
    obtain ⟨f, hfj⟩ := fl j (by omega)
    obtain ⟨v, y', hv, htr, _⟩ := hm j f hfj
    have e := ty j f hfj
    have e' : f.type = ti := by
      rcases (show j = 0 ∨ j = 1 ∨ j = 2 ∨ j = 3 by omega) with rfl | rfl | rfl | rfl <;> simpa using e.symm
    rw [e'] at htr
    obtain ⟨z, hz, _, _⟩ := DataW.trod_int hi htr
    simp only [List.cons.injEq, and_true] at hz
    exact ⟨z, by rw [hv, hz]⟩
  obtain ⟨x0, h0⟩ := num 0 (by omega)
  obtain ⟨x1, h1⟩ := num 1 (by omega)
  obtain ⟨x2, h2⟩ := num 2 (by omega)
  obtain ⟨x3, h3⟩ := num 3 (by omega)
  obtain ⟨f, hfj⟩ := fl 4 (by omega)
  obtain ⟨v, y', h4, htr, hsm⟩ := hm 4 f hfj
  have e' : f.type = tL := by have := ty 4 f hfj; simpa using this.symm
  rw [e'] at htr hsm
  refine ⟨x0, x1, x2, x3, v, m, y', ?_, htr, hsm⟩
  match cs, hl, h0, h1, h2, h3, h4 with
  | [a, b, c, d, e], _, h0, h1, h2, h3, h4 =>
    simp only [List.getElem?_cons_zero, List.getElem?_cons_succ, Option.some.injEq] at h0 h1 h2 h3 h4
    rw [h0, h1, h2, h3, h4]
theorem act_val {t ti tL : TypeId} {fs : Array Field} {r : Reach} {b0 : Nat} {v : Value} {d : DataW H} {p : List MemPlace} (hs : P.underlying t = some (.struct fs)) (hone : oneCellFields P fs = true) (hC : P.cellsOf t = 5)
    (hi : P.underlying ti = some (.int .i64)) (hfs : fs.map (fun f : Field => f.type) = #[ti, ti, ti, ti, tL]) (hv : Value.okWide P w r b0 t v) (h : DataW.Trod enc P w base spare held t v d p) (hz : Small P t d) :
    ∃ x0 x1 x2 x3 vL m y', v = .agg #[.int .i64 x0, .int .i64 x1, .int .i64 x2, .int .i64 x3, vL] ∧ DataW.trod enc P w base spare held m tL [vL] = some y' ∧ Small P tL y'.1 := by
  obtain ⟨cs, rfl, hsz⟩ := okWide_struct hs hv
  obtain ⟨fuel, hf⟩ := h
  obtain ⟨x0, x1, x2, x3, vL, m, y', e, h1, h2⟩ := act_cells (cs := cs.toList) hs hone hi hfs (by rw [Array.length_toList]; exact hsz.trans hC) hf hz
  refine ⟨x0, x1, x2, x3, vL, m, y', ?_, h1, h2⟩
  rw [← Array.toList_inj.1 (show cs.toList = (#[.int .i64 x0, .int .i64 x1, .int .i64 x2, .int .i64 x3, vL] : Array Value).toList from e)]
theorem frames_val {t e b : TypeId} {r : Reach} {b0 : Nat} {v : Value} {d : DataW H} {p : List MemPlace} (ht : P.underlying t = some (.slice e)) (hC : P.cellsOf e = 1) (he : P.underlying e = some (.slice b)) (hCb : P.cellsOf b = 1)
    (hb : P.underlying b = some (.int .u8)) (hby : P.bytesOf b = 1) (hv : Value.okWide P w r b0 t v) (h : DataW.Trod enc P w base spare held t v d p) (hz : Small P t d) :
    ∃ A c fs ls, v = .slice A (List.length ls) c ∧ ls.length ≤ c ∧ c ≤ maxLen ∧ Fin w w.heap.size A fs ls := by
  obtain ⟨A, len, cap, rfl⟩ := okWide_slice ht hv
  obtain ⟨fuel, hf⟩ := h
  obtain ⟨A', c, fs, ls, e1, h1, h2, h3⟩ := frames_trod ht hC he hCb hb hby hf hz
  refine ⟨A', c, fs, ls, ?_, h1, h2, h3⟩
  simpa [Value.cells] using e1
end
end Go.Proofs.Ytlagccfllnhgbaa
