/- Several texts, one behind the other: ArgB. -/
import Derived.Test.YtodephhlhdbeoaaGreatM3
import Derived.Test.YtodephhlhdbeoaaGreatM5
import Derived.SizedLaws
namespace Go.Proofs.YtodephhlhdbeoaaGreat
open Go.ChangeShapes Go.WideShapes Go.ChangeAt Go.RowKit Go.Deep
set_option linter.unusedVariables false
set_option maxRecDepth 100000
def Small {H : Type} (P : Program) (t : TypeId) (d : DataW H) : Prop := (d.weights P t).all (· ≤ reachBytes) = true
section
variable {H : Type} {enc : TypeId × Value → H} {P : Program} {w : World} {base : Nat} {spare : Nat → Bool} {held : Bool}

theorem small_each {ts : List TypeId} {ds : List (DataW H)} (h : (DataW.weightsEach P ts ds).all (· ≤ reachBytes) = true) {j : Nat} {t : TypeId} {d : DataW H} (ht : ts[j]? = some t) (hd : ds[j]? = some d) : Small P t d :=
  List.all_eq_true.2 fun n hn => List.all_eq_true.1 h n (DataW.weights_mem_each ht hd n hn)
theorem weights_mem_all {e : TypeId} : ∀ {ds : List (DataW H)} {d : DataW H}, d ∈ ds → ∀ n ∈ d.weights P e, n ∈ DataW.weightsAll P e ds
  | d0 :: ds, d, hd, n, hn => by
    simp only [DataW.weightsAll, List.mem_append]
    rcases List.mem_cons.1 hd with rfl | hd
    · exact .inl hn
    · exact .inr (weights_mem_all hd n hn)

theorem slice_trod {t e : TypeId} {C fuel : Nat} {cs : List Value} {y : DataW H × List MemPlace} (ht : P.underlying t = some (.slice e)) (hC : P.cellsOf e = C) (hC0 : 0 < C)
    (hf : DataW.trod enc P w base spare held fuel t cs = some y) (hz : Small P t y.1) :
    ∃ A len cap n, cs = [.slice A len cap] ∧ len ≤ cap ∧ cap ≤ maxLen ∧ len * P.bytesOf e ≤ reachBytes ∧
      ∀ i, i < len → ∃ cs' y', ElemAt w A C i cs' ∧ DataW.trod enc P w base spare held n e cs' = some y' ∧ Small P e y'.1 := by
  rcases open_slice ht hf with ⟨rfl, _⟩ | ⟨a, len, cap, m, n, D, Pl, rfl, hb, hl, hm, hmm, rfl, hi⟩
  · exact ⟨none, 0, 0, 0, rfl, Nat.le_refl _, Nat.zero_le _, by simp, fun i hi => absurd hi (Nat.not_lt_zero _)⟩
  · simp only [Small, DataW.weights, ht, List.all_cons, List.all_append, Bool.and_eq_true, decide_eq_true_eq, List.length_map, List.length_range] at hz
    obtain ⟨hz0, hz1, _⟩ := hz
    refine ⟨some a, len, cap, n, rfl, hl, hm, Nat.le_trans (Nat.mul_le_mul_right _ (Nat.le_add_right _ _)) hz0, fun i hil => ?_⟩
    have him : i < m := by rw [hmm]; split <;> omega
    obtain ⟨cs, hc, htr⟩ := hi i him
    have hsm : Small P e (D i) := List.all_eq_true.2 fun k hk => List.all_eq_true.1 hz1 k (weights_mem_all (List.mem_map.2 ⟨i, List.mem_range.2 hil, rfl⟩) k hk)
    rw [hC] at hc
    obtain ⟨_, hlen, hat⟩ := World.cells?_some hc
    have hspot : a.spot = none := by
      by_cases hz : i * C = 0
      · have h0 := hat 0 hC0
        rw [hz] at h0
        obtain ⟨x, hx⟩ : ∃ x, cs[0]? = some x := ⟨cs[0]'(by omega), List.getElem?_eq_getElem (by omega)⟩
        rw [hx] at h0
        have := World.cell?_spot h0
        simpa [Addr.add] using this
      · have hi0 : 0 < i := Nat.pos_of_ne_zero fun e => hz (by rw [e, Nat.zero_mul])
        obtain ⟨cs0, hc0, _⟩ := hi 0 (by omega)
        rw [hC] at hc0
        obtain ⟨_, hlen0, hat0⟩ := World.cells?_some hc0
        have h0 := hat0 0 hC0
        obtain ⟨x, hx⟩ : ∃ x, cs0[0]? = some x := ⟨cs0[0]'(by omega), List.getElem?_eq_getElem (by omega)⟩
        rw [hx] at h0
        have := World.cell?_spot h0
        simpa [Addr.add] using this
    obtain ⟨g, o, sp⟩ := a
    simp only at hspot
    subst hspot
    have hcell : ∀ j, j < C → w.cell? ⟨g, o + i * C + j, none⟩ = cs[j]? := fun j hj => by
      have := hat j hj
      rw [add_add, Addr.add_lit] at this
      rw [Nat.add_assoc]; exact this
    have hg : g < w.heap.size := by
      obtain ⟨x, hx⟩ : ∃ x, cs[0]? = some x := ⟨cs[0]'(by omega), List.getElem?_eq_getElem (by omega)⟩
      have h1 := hcell 0 hC0
      rw [hx] at h1
      exact World.block_lt_of_cell? w _ h1
    exact ⟨cs, _, ⟨hlen, g, o, rfl, hg, hcell⟩, htr, hsm⟩

theorem struct_trod {e : TypeId} {fs : Array Field} {n : Nat} {cs : List Value} {y : DataW H × List MemPlace} (hs : P.underlying e = some (.struct fs)) (hone : oneCellFields P fs = true)
    (h : DataW.trod enc P w base spare held n e cs = some y) (hz : Small P e y.1) (hl : cs.length = fs.size) :
    ∃ m, ∀ (j : Nat) (f : Field), fs[j]? = some f → ∃ v y', cs[j]? = some v ∧ DataW.trod enc P w base spare held m f.type [v] = some y' ∧ Small P f.type y'.1 := by
  obtain ⟨xs, m, _, rfl, _, hlen, hf⟩ := DataW.trod_struct hs h
  simp only [Small, DataW.weights, hs] at hz
  refine ⟨m, fun j f hj => ?_⟩
  obtain ⟨ho, hk⟩ := hone_of hone j f hj
  have hjl : j < fs.size := (Array.getElem?_eq_some_iff.1 hj).1
  have h1 := hf j f hj
  rw [ho, hk] at h1
  have hcs : (cs.drop j).take 1 = [cs[j]'(by omega)] := by
    rw [List.drop_eq_getElem_cons (by omega)]; rfl
  rw [hcs] at h1
  have hxj : xs[j]? = some (xs[j]'(by omega)) := List.getElem?_eq_getElem (by omega)
  refine ⟨_, _, List.getElem?_eq_getElem (by omega), h1.trans hxj, small_each hz (j := j) ?_ ?_⟩
  · rw [List.getElem?_map, Array.getElem?_toList, hj]; rfl
  · rw [List.getElem?_map, hxj]; rfl

theorem ElemAt.one {A : Option Addr} {i : Nat} {cs : List Value} (h : ElemAt w A 1 i cs) : ∃ v g o, cs = [v] ∧ A = some ⟨g, o, none⟩ ∧ g < w.heap.size ∧ w.cell? ⟨g, o + i, none⟩ = some v := by
  obtain ⟨hl, g, o, e, hg, hc⟩ := h
  obtain ⟨v, rfl⟩ := List.length_eq_one_iff.1 hl
  have := hc 0 (by omega)
  rw [Nat.mul_one, Nat.add_zero] at this
  exact ⟨v, g, o, rfl, e, hg, this⟩

theorem bytes_trod {t e : TypeId} {fuel : Nat} {cs : List Value} {y : DataW H × List MemPlace} (ht : P.underlying t = some (.slice e)) (hC : P.cellsOf e = 1) (hi : P.underlying e = some (.int .u8)) (hby : P.bytesOf e = 1)
    (hf : DataW.trod enc P w base spare held fuel t cs = some y) (hz : Small P t y.1) :
    ∃ v l, cs = [v] ∧ Byt w v l ∧ (∀ x ∈ l, 0 ≤ x ∧ x ≤ 255) ∧ (0 < l.length → ∀ k, ownB v k → k < w.heap.size) := by
  obtain ⟨A, len, cap, n, rfl, hl, hm, hsz, hel⟩ := slice_trod ht hC (by decide) hf hz
  rw [hby, Nat.mul_one] at hsz
  have key : ∀ i, i < len → ∃ z : Int, (∃ g o, A = some ⟨g, o, none⟩ ∧ g < w.heap.size ∧ w.cell? ⟨g, o + i, none⟩ = some (.int .u8 z)) ∧ 0 ≤ z ∧ z ≤ 255 := by
    intro i hil
    obtain ⟨cs', y', hea, htr, _⟩ := hel i hil
    obtain ⟨v, g, o, rfl, rfl, hg, hc⟩ := hea.one
    obtain ⟨z, hz, _, hwf⟩ := DataW.trod_int hi htr
    simp only [List.cons.injEq, and_true] at hz
    subst hz
    have hwf' : 0 ≤ z ∧ z ≤ 255 := by simpa [Lit.wf, IntKind.min, IntKind.max, IntKind.signed, IntKind.bits] using hwf
    exact ⟨z, ⟨g, o, rfl, hg, hc⟩, hwf'⟩
  obtain ⟨L, hL, hR⟩ := choose_list len 0 _ key
  subst hL
  have hr : reachBytes ≤ 140737488355328 := by decide
  refine ⟨_, L, rfl, ⟨A, cap, rfl, hl, by omega, ?_⟩, ?_, ?_⟩
  · intro j u hj
    rw [List.getElem?_map] at hj
    obtain ⟨z, hz, rfl⟩ := Option.map_eq_some_iff.1 hj
    have hjl : j < L.length := (List.getElem?_eq_some_iff.1 hz).1
    obtain ⟨⟨g, o, e, _, hc⟩, _⟩ := hR j hjl
    have : L.getD j 0 = z := by simp [hz]
    rw [this] at hc
    exact ⟨g, o, e, hc⟩
  · intro x hx
    obtain ⟨j, hj, rfl⟩ := List.mem_iff_getElem.1 hx
    have := (hR j hj).2
    simpa [hj] using this
  · intro hz k hk
    obtain ⟨⟨g, o, e, hg, _⟩, _⟩ := hR 0 hz
    subst e
    rw [ownB_slice] at hk
    omega


theorem int_field {t : TypeId} {m o : Nat} {cs : List Value} {y : Option (DataW H × List MemPlace)} {y' : DataW H × List MemPlace} (hi : P.underlying t = some (.int .i64)) (hC : P.cellsOf t = 1)
    (h : DataW.trod enc P w base spare held m t ((cs.drop o).take (P.cellsOf t)) = y) (hy : y = some y') : ∃ z : Int, cs[o]? = some (.int .i64 z) := by
  rw [hy, hC] at h
  obtain ⟨z, hz, _, _⟩ := DataW.trod_int hi h
  refine ⟨z, ?_⟩
  have : ((cs.drop o).take 1)[0]? = some (.int .i64 z) := by rw [hz]; rfl
  rw [List.getElem?_take_of_lt (by decide), List.getElem?_drop] at this
  exact this
theorem arr_field {t e : TypeId} {m o : Nat} {cs : List Value} {y : Option (DataW H × List MemPlace)} {y' : DataW H × List MemPlace} (ht : P.underlying t = some (.array 3 e)) (hC : P.cellsOf t = 3) (hi : P.underlying e = some (.int .i64)) (hC1 : P.cellsOf e = 1)
    (h : DataW.trod enc P w base spare held m t ((cs.drop o).take (P.cellsOf t)) = y) (hy : y = some y') : ∀ i, i < 3 → ∃ z : Int, cs[o + i]? = some (.int .i64 z) := by
  intro i hi3
  rw [hy, hC] at h
  obtain ⟨xs, m', _, _, _, hlen, hg⟩ := DataW.trod_array ht h
  have g := hg i hi3
  have hx : xs[i]? = some (xs[i]'(by omega)) := List.getElem?_eq_getElem (by omega)
  obtain ⟨z, hz⟩ := int_field (cs := (cs.drop o).take 3) hi hC1 g hx
  rw [hC1, Nat.mul_one, List.getElem?_take_of_lt hi3, List.getElem?_drop] at hz
  exact ⟨z, hz⟩
end
section
variable {H : Type} {enc : TypeId × Value → H} {w : World} {base : Nat} {spare : Nat → Bool} {held : Bool}
theorem choose_fun {n : Nat} {cs : List Value} (h : ∀ i, i < n → ∃ z : Int, cs[i]? = some (.int .i64 z)) : ∃ f : Nat → Int, ∀ i, i < n → cs[i]? = some (.int .i64 (f i)) := by
  obtain ⟨L, hL, hR⟩ := choose_list n 0 (fun i (z : Int) => cs[i]? = some (.int .i64 z)) h
  exact ⟨fun i => L.getD i 0, hR⟩
theorem hints_trod {fuel : Nat} {cs : List Value} {y : DataW H × List MemPlace} (hf : DataW.trod enc Tryz.prog w base spare held fuel 23 cs = some y) (hz : Small Tryz.prog 23 y.1) :
    ∃ A c L, cs = [.slice A (List.length L) c] ∧ HintsAt w A L.length c L := by
  obtain ⟨A, len, cap, n, rfl, hl, hm, hsz, hel⟩ := slice_trod (C := 4) Tryz.underlying23 (by kernel_rfl) (by decide) hf hz
  have key : ∀ i, i < len → ∃ a : HintA, ∃ g o, A = some ⟨g, o, none⟩ ∧ g < w.heap.size ∧ w.cell? ⟨g, o + i * 4, none⟩ = some (.int .i64 a.fr) ∧ w.cell? ⟨g, o + i * 4 + 1, none⟩ = some (.int .i64 a.size) ∧ w.cell? ⟨g, o + i * 4 + 2, none⟩ = some (.int .i64 a.often) ∧ w.cell? ⟨g, o + i * 4 + 3, none⟩ = some (.bool a.loop) := by
    intro i hil
    obtain ⟨cs', y', ⟨hcl, g, o, rfl, hg, hcell⟩, htr, hsm⟩ := hel i hil
    obtain ⟨m, hm⟩ := struct_trod Tryz.underlying141 (by kernel_rfl) htr hsm hcl
    obtain ⟨v0, y0, h0, t0, _⟩ := hm 0 _ rfl
    obtain ⟨v1, y1, h1, t1, _⟩ := hm 1 _ rfl
    obtain ⟨v2, y2, h2, t2, _⟩ := hm 2 _ rfl
    obtain ⟨v3, y3, h3, t3, _⟩ := hm 3 _ rfl
    obtain ⟨z0, e0, _, _⟩ := DataW.trod_int Tryz.underlying3 t0
    obtain ⟨z1, e1, _, _⟩ := DataW.trod_int Tryz.underlying3 t1
    obtain ⟨z2, e2, _, _⟩ := DataW.trod_int Tryz.underlying3 t2
    obtain ⟨z3, e3, _⟩ := DataW.trod_bool Tryz.underlying4 t3
    simp only [List.cons.injEq, and_true] at e0 e1 e2 e3
    subst e0 e1 e2 e3
    exact ⟨⟨z0, z1, z2, z3⟩, g, o, rfl, hg, by rw [← h0]; exact hcell 0 (by decide), by rw [← h1]; exact hcell 1 (by decide), by rw [← h2]; exact hcell 2 (by decide), by rw [← h3]; exact hcell 3 (by decide)⟩
  obtain ⟨L, hL, hR⟩ := choose_list len default _ key
  subst hL
  exact ⟨A, cap, L, rfl, rfl, hl, hm, hR⟩
theorem cfg_val {r : Reach} {b0 : Nat} {v : Value} {d : DataW H} {p : List MemPlace} (hv : Value.okWide Tryz.prog w r b0 25 v) (h : DataW.Trod enc Tryz.prog w base spare held 25 v d p) (hz : Small Tryz.prog 25 d) :
    ∃ c A m, v = .agg (cfgCells c (.slice A c.h.length m)) ∧ HintsAt w A c.h.length m c.h := by
  obtain ⟨cs, rfl, hsz⟩ := okWide_struct Tryz.underlying25 hv
  have hsz : cs.size = 17 := hsz.trans (by kernel_rfl)
  obtain ⟨fuel, hf⟩ := h
  obtain ⟨xs, m, _, hxs, _, hlen, hg⟩ := DataW.trod_struct Tryz.underlying25 hf
  injection hxs with e1 e2
  subst e1 e2
  have hlen : xs.length = 13 := hlen
  have hx : ∀ j, j < 13 → ∃ y, xs[j]? = some y := fun j hj => ⟨xs[j]'(by omega), List.getElem?_eq_getElem (by omega)⟩
  have hC1 : Tryz.prog.cellsOf 3 = 1 := by kernel_rfl
  have hC3 : Tryz.prog.cellsOf 22 = 3 := by kernel_rfl
  obtain ⟨y0, hy0⟩ := hx 0 (by decide)
  obtain ⟨z0, hz0⟩ := int_field (o := 0) Tryz.underlying3 hC1 (hg 0 _ rfl) hy0
  obtain ⟨y1, hy1⟩ := hx 1 (by decide)
  obtain ⟨z1, hz1⟩ := int_field (o := 1) Tryz.underlying3 hC1 (hg 1 _ rfl) hy1
  obtain ⟨y2, hy2⟩ := hx 2 (by decide)
  obtain ⟨z2, hz2⟩ := int_field (o := 2) Tryz.underlying3 hC1 (hg 2 _ rfl) hy2
  obtain ⟨y3, hy3⟩ := hx 3 (by decide)
  obtain ⟨z3, hz3⟩ := int_field (o := 3) Tryz.underlying3 hC1 (hg 3 _ rfl) hy3
  obtain ⟨y4, hy4⟩ := hx 4 (by decide)
  obtain ⟨z4, hz4⟩ := int_field (o := 4) Tryz.underlying3 hC1 (hg 4 _ rfl) hy4
  obtain ⟨y5, hy5⟩ := hx 5 (by decide)
  obtain ⟨z5, hz5⟩ := int_field (o := 5) Tryz.underlying3 hC1 (hg 5 _ rfl) hy5
  obtain ⟨y8, hy8⟩ := hx 8 (by decide)
  obtain ⟨z12, hz12⟩ := int_field (o := 12) Tryz.underlying3 hC1 (hg 8 _ rfl) hy8
  obtain ⟨y9, hy9⟩ := hx 9 (by decide)
  obtain ⟨z13, hz13⟩ := int_field (o := 13) Tryz.underlying3 hC1 (hg 9 _ rfl) hy9
  obtain ⟨y10, hy10⟩ := hx 10 (by decide)
  obtain ⟨z14, hz14⟩ := int_field (o := 14) Tryz.underlying3 hC1 (hg 10 _ rfl) hy10
  obtain ⟨y11, hy11⟩ := hx 11 (by decide)
  obtain ⟨z15, hz15⟩ := int_field (o := 15) Tryz.underlying3 hC1 (hg 11 _ rfl) hy11
  obtain ⟨y6, hy6⟩ := hx 6 (by decide)
  have ha6 := arr_field (o := 6) Tryz.underlying22 hC3 Tryz.underlying3 hC1 (hg 6 _ rfl) hy6
  obtain ⟨y7, hy7⟩ := hx 7 (by decide)
  have ha9 := arr_field (o := 9) Tryz.underlying22 hC3 Tryz.underlying3 hC1 (hg 7 _ rfl) hy7
  have hall : ∀ i, i < 16 → ∃ z : Int, cs.toList[i]? = some (.int .i64 z) := by
    intro i hi
    rcases (show i = 0 ∨ i = 1 ∨ i = 2 ∨ i = 3 ∨ i = 4 ∨ i = 5 ∨ i = 6 ∨ i = 7 ∨ i = 8 ∨ i = 9 ∨ i = 10 ∨ i = 11 ∨ i = 12 ∨ i = 13 ∨ i = 14 ∨ i = 15 from by omega) with rfl | rfl | rfl | rfl | rfl | rfl | rfl | rfl | rfl | rfl | rfl | rfl | rfl | rfl | rfl | rfl
    · exact ⟨z0, hz0⟩
    · exact ⟨z1, hz1⟩
    · exact ⟨z2, hz2⟩
    · exact ⟨z3, hz3⟩
    · exact ⟨z4, hz4⟩
    · exact ⟨z5, hz5⟩
    · exact ha6 0 (by decide)
    · exact ha6 1 (by decide)
    · exact ha6 2 (by decide)
    · exact ha9 0 (by decide)
    · exact ha9 1 (by decide)
    · exact ha9 2 (by decide)
    · exact ⟨z12, hz12⟩
    · exact ⟨z13, hz13⟩
    · exact ⟨z14, hz14⟩
    · exact ⟨z15, hz15⟩
  obtain ⟨f, hfu⟩ := choose_fun hall
  have hl17 : cs.toList.length = 17 := by rw [Array.length_toList]; exact hsz
  obtain ⟨y12, hy12⟩ := hx 12 (by decide)
  have h16 := (hg 12 _ rfl).trans hy12
  have e16 : (cs.toList.drop 16).take (Tryz.prog.cellsOf 23) = [cs.toList[16]'(by omega)] := by
    rw [show Tryz.prog.cellsOf 23 = 1 from by kernel_rfl, List.drop_eq_getElem_cons (by omega)]; rfl
  have h16' : DataW.trod enc Tryz.prog w base spare held m 23 [cs.toList[16]'(by omega)] = some y12 := by rw [← e16]; exact h16
  simp only [Small, DataW.weights, Tryz.underlying25] at hz
  obtain ⟨A, cap, L, eL, hHA⟩ := hints_trod h16' (small_each hz (j := 12) rfl (by rw [List.getElem?_map, hy12]; rfl))
  simp only [List.cons.injEq, and_true] at eL
  refine ⟨⟨f, L⟩, A, cap, ?_, hHA⟩
  congr 1
  apply Array.toList_inj.1
  apply List.ext_getElem?
  intro i
  by_cases hi : i < 16
  · rw [hfu i hi]
    have := cfgCells_at ⟨f, L⟩ (.slice A L.length cap) hi
    rw [← Array.getElem?_toList] at this
    exact this.symm
  · by_cases hi2 : i = 16
    · subst hi2
      rw [List.getElem?_eq_getElem (by omega), eL]
      rfl
    · rw [List.getElem?_eq_none (by omega), List.getElem?_eq_none (by show 17 ≤ i; omega)]
theorem frame_val {r : Reach} {b0 : Nat} {v : Value} {d : DataW H} {p : List MemPlace} (hv : Value.okWide Tryz.prog w r b0 38 v) (h : DataW.Trod enc Tryz.prog w base spare held 38 v d p) (hz : Small Tryz.prog 38 d) :
    ∃ b A c l, v = .agg #[.int .i64 b, .slice A (List.length l) c] ∧ Byt w (.slice A l.length c) l := by
  obtain ⟨cs, rfl, hsz⟩ := okWide_struct Tryz.underlying38 hv
  have hsz : cs.size = 2 := hsz.trans (by kernel_rfl)
  obtain ⟨fuel, hf⟩ := h
  obtain ⟨m, hm⟩ := struct_trod Tryz.underlying38 (by kernel_rfl) hf hz (by show cs.toList.length = 2; simpa using hsz)
  obtain ⟨v0, y0, h0, t0, _⟩ := hm 0 _ rfl
  obtain ⟨v1, y1, h1, t1, s1⟩ := hm 1 _ rfl
  obtain ⟨z0, e0, _, _⟩ := DataW.trod_int Tryz.underlying3 t0
  obtain ⟨v, d, e5, hby, hrng, _⟩ := bytes_trod Tryz.underlying36 (by kernel_rfl) Tryz.underlying5 (by kernel_rfl) t1 s1
  simp only [List.cons.injEq, and_true] at e0 e5
  subst e0 e5
  obtain ⟨A, c, rfl, hr⟩ := id hby
  refine ⟨z0, A, c, d, ?_, hby⟩
  congr 1
  apply Array.ext'
  match hcs : cs.toList with
  | [a, b] =>
    have h0 : cs.toList[0]? = _ := h0
    have h1 : cs.toList[1]? = _ := h1
    rw [hcs] at h0 h1
    simp at h0 h1
    rw [h0, h1]
  | [] => simp [← Array.length_toList, hcs] at hsz
  | [a] => simp [← Array.length_toList, hcs] at hsz
  | a :: b :: c :: l => simp [← Array.length_toList, hcs] at hsz
end
end Go.Proofs.YtodephhlhdbeoaaGreat
