/- uni.Stack in memory; uni.New. -/
import Derived.Test.YtcphifphidcbaaaGreatSpf
import Derived.Test.YtcphifphidcbaaaGreatLru
namespace Go.Proofs.YtcphifphidcbaaaGreat
open Go.RowKit Go.ChangeShapes Go.WideShapes
set_option linter.unusedVariables false
set_option linter.unusedSimpArgs false
def uniC (g : Nat) (cap lev cnt : Nat → Int) : Array Value := Array.ofFn (n := 74) fun i => if i.1 = 0 then .pointer (some ⟨g, 0, none⟩) else if i.1 < 5 then .int .i64 (cap (i.1 - 1)) else if i.1 < 69 then .int .i64 (lev (i.1 - 5)) else .int .i64 (cnt (i.1 - 69))
theorem uniC_g (g : Nat) (cap lev cnt : Nat → Int) : (uniC g cap lev cnt)[0]? = some (.pointer (some ⟨g, 0, none⟩)) := by simp [uniC]
theorem uniC_cap (g : Nat) (cap lev cnt : Nat → Int) {i : Nat} (hi : i < 4) : (uniC g cap lev cnt)[1 + i]? = some (.int .i64 (cap i)) := by
  have h1 : 1 + i < 74 := by omega
  have h2 : 1 + i ≠ 0 := by omega
  have h3 : 1 + i < 5 := by omega
  have h4 : 1 + i - 1 = i := by omega
  simp only [uniC, Array.getElem?_ofFn, h1, dite_true, h2, if_false, h3, if_true, h4]
theorem uniC_setCap (g : Nat) (cap lev cnt : Nat → Int) {i : Nat} (hi : i < 4) (v : Int) (cap' : Nat → Int) (hc : ∀ j, j < 4 → cap' j = if j = i then v else cap j) : (uniC g cap lev cnt).setIfInBounds (1 + i) (.int .i64 v) = uniC g cap' lev cnt := by
  refine Array.ext (by simp [uniC]) fun j h1 h2 => ?_
  have hj : j < 74 := by simpa [uniC] using h2
  rw [Array.getElem_setIfInBounds (by simpa [uniC] using hj)]
  simp only [uniC, Array.getElem_ofFn]
  by_cases e : 1 + i = j
  · subst e
    rw [if_pos rfl, if_neg (by omega), if_pos (by omega), hc (1 + i - 1) (by omega), if_pos (by omega)]
  · rw [if_neg e]
    by_cases e0 : j = 0
    · rw [if_pos e0, if_pos e0]
    · rw [if_neg e0, if_neg e0]
      by_cases e5 : j < 5
      · rw [if_pos e5, if_pos e5, hc (j - 1) (by omega), if_neg (by omega)]
      · rw [if_neg e5, if_neg e5]
def capT (k0 k1 k2 : Int) (t : Nat) : Nat → Int := fun i => if i = 1 ∧ 1 ≤ t then k0 else if i = 2 ∧ 2 ≤ t then k1 else if i = 3 ∧ 3 ≤ t then k2 else 0
theorem built_pile (g : Nat) : Tryz.prog.built 149 [(0, .pointer (some ⟨g, 0, none⟩))] = some #[.pointer (some ⟨g, 0, none⟩)] := by kernel_rfl
theorem built_uni (g : Nat) : Tryz.prog.built 153 [(0, .agg #[.pointer (some ⟨g, 0, none⟩)])] = some (uniC g (fun _ => 0) (fun _ => 0) (fun _ => 0)) := by kernel_rfl
theorem wpList_build1 {P : Program} {ops : Array Oper} {rest : List Oper} {o : Oper} {a : Act} {w : World} {Q : Exit → Act → World → Prop} (hgd : o.guard = none) (t : TypeId) (parts : Array (Nat × Operand)) (ho : o.op = .build t parts)
    (pv : List (Nat × Value)) (cells : Array Value) (hf : (parts.map fun (i, x) => (i, a.eval x)).toList = pv) (hb : P.built t pv = some cells) (h : wpList P ops Q rest (a.put o.dst (.agg cells)) w) : wpList P ops Q (o :: rest) a w :=
  wpList_plain hgd fun K hK => Go.wp_build t parts ho (by rw [hf, hb]; rfl) (by rw [hf, hb]; exact hK _ _ h)
def UPost (k0 k1 k2 : Int) (w : World) (e : Ending) (w' : World) : Prop :=
  ∃ u g eb, e = .returned (.tuple #[.pointer (some ⟨u, 0, none⟩), .int .i64 0]) ∧ Box w' u 153 (uniC g (capT k0 k1 k2 3) (fun _ => 0) (fun _ => 0)) ∧ SpB w' g eb 1 (fun _ => []) ∧ w.heap.size ≤ u ∧ w.heap.size ≤ g ∧ w.heap.size ≤ eb ∧ g < u ∧ eb < u ∧ Only Non w w'
def URel (k0 k1 k2 : Int) (u g : Nat) (W : World) (i : Value) (wr : World) : Prop :=
  ∃ t : Nat, t ≤ 3 ∧ i = .int .i64 t ∧ Box wr u 153 (uniC g (capT k0 k1 k2 t) (fun _ => 0) (fun _ => 0)) ∧ Only (Just u) W wr
section
set_option maxHeartbeats 4000000
set_option maxRecDepth 100000
theorem uni_new (k0 k1 k2 : Int) (h0 : 1 ≤ k0 ∧ k0 ≤ 16) (h1 : 1 ≤ k1 ∧ k1 ≤ 16) (h2 : 1 ≤ k2 ∧ k2 ≤ 16) (w : World) :
    Calls Tryz.prog 50 #[.agg #[.int .i64 k0, .int .i64 k1, .int .i64 k2]] w (UPost k0 k1 k2 w) := by
  go_enter Tryz.func50, Tryz.ntmps50
  go_upto_region 1 with fail
  have HO1 := Lib.hid ((Only.refl Non w).alloc (.cells #[.int .i64 k0, .int .i64 k1, .int .i64 k2] 39))
  have HB1 := Lib.hid (Box.fresh w 39 #[.int .i64 k0, .int .i64 k1, .int .i64 k2])
  generalize w.alloc (.cells #[.int .i64 k0, .int .i64 k1, .int .i64 k2] 39) = W1 at *
  obtain ⟨cb, hcb⟩ : ∃ cb, cb = w.heap.size := ⟨_, rfl⟩
  rw [← hcb] at HB1 ⊢
  have HCB := Lib.hid hcb
  clear hcb
  have HN := Lib.hid (new_any (m := 1) W1 (by decide) (by decide))
  go_upto_region 2 with (go_at_call 84; refine HN.out.mono ?_; rintro e W2 ⟨g, eb, rfl, hs2, hg2, he2, ho2⟩)
  have ez : Tryz.zeroCells153.setIfInBounds 0 (.pointer (some ⟨g, 0, none⟩)) = uniC g (fun _ => 0) (fun _ => 0) (fun _ => 0) := by kernel_rfl
  rw [ez]
  clear ez
  have hb3 := Box.fresh W2 153 (uniC g (fun _ => 0) (fun _ => 0) (fun _ => 0))
  have ho3 : Only Non W2 (W2.alloc (.cells (uniC g (fun _ => 0) (fun _ => 0) (fun _ => 0)) 153)) := (Only.refl _ _).alloc _
  have HB3 := Lib.hid hb3
  have HS3 := Lib.hid (hs2.only ho3 (fun h => h.elim) (fun h => h.elim))
  have HO3 := Lib.hid ((HO1.out.trans ho2).trans ho3)
  have HC3 := Lib.hid (ho3.box (ho2.box HB1.out id) id)
  have HL := Lib.hid (show W1.heap.size ≤ g ∧ W1.heap.size ≤ eb ∧ g < W2.heap.size ∧ eb < W2.heap.size from ⟨hg2, he2, hs2.lt1⟩)
  have HL1 := Lib.hid (show cb < W1.heap.size from HB1.out.lt)
  have HL2 := Lib.hid (show w.heap.size ≤ W1.heap.size ∧ W1.heap.size ≤ W2.heap.size from ⟨HO1.out.size, ho2.size⟩)
  change Code.wp _ _ _ _ (W2.alloc (.cells (uniC g (fun _ => 0) (fun _ => 0) (fun _ => 0)) 153))
  clear hb3 ho3 hs2 hg2 he2 ho2 HN HB1 HO1
  generalize W2.alloc (.cells (uniC g (fun _ => 0) (fun _ => 0) (fun _ => 0)) 153) = W3 at *
  generalize W2.heap.size = u at *
  have x0 : W3.cell? ⟨cb, 0, none⟩ = some (.int .i64 k0) := HC3.out.cellAt rfl
  have x1 : W3.cell? ⟨cb, 1, none⟩ = some (.int .i64 k1) := HC3.out.cellAt rfl
  have x2 : W3.cell? ⟨cb, 2, none⟩ = some (.int .i64 k2) := HC3.out.cellAt rfl
  go_wp2_with fail
  clear x0 x1 x2
  go_loopw [12] (fun i wr => URel k0 k1 k2 u g W3 i wr) (fun i _ => 3 - (intOf i).toNat)
  case atStart =>
    refine ⟨0, by omega, rfl, ?_, Only.refl _ _⟩
    have e : capT k0 k1 k2 0 = fun _ => 0 := by funext i; simp [capT]
    rw [e]
    exact HB3.out
  case round =>
    obtain ⟨t, ht, rfl, hb, ho⟩ := hrel
    have HB := Lib.hid hb
    have HO := Lib.hid ho
    clear hb ho
    rcases (show t = 0 ∨ t = 1 ∨ t = 2 ∨ t = 3 by omega) with rfl | rfl | rfl | rfl
    · have hn0 : ¬ k0 < 1 := by omega
      have hn1 : ¬ 16 < k0 := by omega
      have hidx := fun w => run_index_agg (P := Tryz.prog) w 39 3 3 #[.int .i64 k0, .int .i64 k1, .int .i64 k2] .i64 0 (.int .i64 k0) Tryz.underlying39 (by kernel_rfl) (by kernel_rfl) (by decide) (by decide) rfl
      have hc : wr.cell? ⟨u, 2, none⟩ = some (.int .i64 (capT k0 k1 k2 0 1)) := HB.out.cellAt (uniC_cap g (capT k0 k1 k2 0) (fun _ => 0) (fun _ => 0) (i := 1) (by decide))
      have hf : wr.frozen? ⟨u, 2, none⟩ = false := HB.out.free _
      go_wp2_with fail
      have hb2 : Box (wr.setCell ⟨u, 2, none⟩ (.int .i64 k0)) u 153 (uniC g (capT k0 k1 k2 1) (fun _ => 0) (fun _ => 0)) := by
        have h := HB.out.store (1 + 1) (.int .i64 k0)
        rw [uniC_setCap g (capT k0 k1 k2 0) (fun _ => 0) (fun _ => 0) (i := 1) (by decide) k0 (capT k0 k1 k2 1) (fun j hj => by
          rcases (show j = 0 ∨ j = 1 ∨ j = 2 ∨ j = 3 by omega) with rfl | rfl | rfl | rfl <;> simp [capT])] at h
        exact h
      refine ⟨⟨1, by decide, rfl, hb2, HO.out.setCell (p := ⟨u, 2, none⟩) (.inl rfl) _⟩, ?_⟩
      decide
    · have hn0 : ¬ k1 < 1 := by omega
      have hn1 : ¬ 16 < k1 := by omega
      have hidx := fun w => run_index_agg (P := Tryz.prog) w 39 3 3 #[.int .i64 k0, .int .i64 k1, .int .i64 k2] .i64 1 (.int .i64 k1) Tryz.underlying39 (by kernel_rfl) (by kernel_rfl) (by decide) (by decide) rfl
      have hc : wr.cell? ⟨u, 3, none⟩ = some (.int .i64 (capT k0 k1 k2 1 2)) := HB.out.cellAt (uniC_cap g (capT k0 k1 k2 1) (fun _ => 0) (fun _ => 0) (i := 2) (by decide))
      have hf : wr.frozen? ⟨u, 3, none⟩ = false := HB.out.free _
      go_wp2_with fail
      have hb2 : Box (wr.setCell ⟨u, 3, none⟩ (.int .i64 k1)) u 153 (uniC g (capT k0 k1 k2 2) (fun _ => 0) (fun _ => 0)) := by
        have h := HB.out.store (1 + 2) (.int .i64 k1)
        rw [uniC_setCap g (capT k0 k1 k2 1) (fun _ => 0) (fun _ => 0) (i := 2) (by decide) k1 (capT k0 k1 k2 2) (fun j hj => by
          rcases (show j = 0 ∨ j = 1 ∨ j = 2 ∨ j = 3 by omega) with rfl | rfl | rfl | rfl <;> simp [capT])] at h
        exact h
      refine ⟨⟨2, by decide, rfl, hb2, HO.out.setCell (p := ⟨u, 3, none⟩) (.inl rfl) _⟩, ?_⟩
      decide
    · have hn0 : ¬ k2 < 1 := by omega
      have hn1 : ¬ 16 < k2 := by omega
      have hidx := fun w => run_index_agg (P := Tryz.prog) w 39 3 3 #[.int .i64 k0, .int .i64 k1, .int .i64 k2] .i64 2 (.int .i64 k2) Tryz.underlying39 (by kernel_rfl) (by kernel_rfl) (by decide) (by decide) rfl
      have hc : wr.cell? ⟨u, 4, none⟩ = some (.int .i64 (capT k0 k1 k2 2 3)) := HB.out.cellAt (uniC_cap g (capT k0 k1 k2 2) (fun _ => 0) (fun _ => 0) (i := 3) (by decide))
      have hf : wr.frozen? ⟨u, 4, none⟩ = false := HB.out.free _
      go_wp2_with fail
      have hb2 : Box (wr.setCell ⟨u, 4, none⟩ (.int .i64 k2)) u 153 (uniC g (capT k0 k1 k2 3) (fun _ => 0) (fun _ => 0)) := by
        have h := HB.out.store (1 + 3) (.int .i64 k2)
        rw [uniC_setCap g (capT k0 k1 k2 2) (fun _ => 0) (fun _ => 0) (i := 3) (by decide) k2 (capT k0 k1 k2 3) (fun j hj => by
          rcases (show j = 0 ∨ j = 1 ∨ j = 2 ∨ j = 3 by omega) with rfl | rfl | rfl | rfl <;> simp [capT])] at h
        exact h
      refine ⟨⟨3, by decide, rfl, hb2, HO.out.setCell (p := ⟨u, 4, none⟩) (.inl rfl) _⟩, ?_⟩
      decide
    · go_wp2_with fail
      go_ret2
      have hw := HO3.out
      refine ⟨u, g, eb, rfl, HB.out, HS3.out.only HO.out (fun h => ?_) (fun h => ?_), ?_, ?_, ?_, HL.out.2.2.1, HL.out.2.2.2, HO3.out.trans' HO.out fun k hk => ?_⟩
      · have h1 : g = u := h; have := HL.out.2.2.1; omega
      · have h1 : eb = u := h; have := HL.out.2.2.2; omega
      · have := HL2.out; omega
      · have := HL2.out; have := HL.out; omega
      · have := HL2.out; have := HL.out; omega
      · have h1 : k = u := hk; have := HL2.out; exact .inr (by omega)
end
end Go.Proofs.YtcphifphidcbaaaGreat
