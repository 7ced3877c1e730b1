/- A map keyed by numbers, of any elements of one cell, as a function. -/
import Derived.Test.YtcphifphidcbaaaGreatLib
import Derived.Maps.Keyed
import Derived.Maps.OwnOps
import Derived.MapKept
import Derived.Carry
namespace Go.Proofs.YtcphifphidcbaaaGreat
open Go.RowKit Go.MapKept Go.Maps
set_option linter.unusedVariables false
set_option linter.unusedSimpArgs false
def I64 (k : Int) : Prop := -9223372036854775808 ≤ k ∧ k ≤ 9223372036854775807
theorem I64.wf {k : Int} (h : I64 k) : (Lit.int .i64 k).wf = true := by
  obtain ⟨h1, h2⟩ := h
  simp [Lit.wf, IntKind.min, IntKind.max, IntKind.signed, IntKind.bits]
  omega
theorem I64.of {k : Int} (h : (Lit.int .i64 k).wf = true) : I64 k := by
  simp [Lit.wf, IntKind.min, IntKind.max, IntKind.signed, IntKind.bits] at h
  exact ⟨by omega, by omega⟩
/-- block mb is a map that holds F -/
def MapI (w : World) (mb : Nat) (F : Int → Option Value) : Prop :=
  ∃ es clock, w.heap[mb]? = some (.map es clock) ∧ Stamped es clock ∧ (∀ e ∈ es.toList, ∃ k, I64 k ∧ e.key = .int .i64 k ∧ F k = some e.val) ∧ ∀ k v, F k = some v → ∃ e ∈ es.toList, e.key = .int .i64 k
def fSet (F : Int → Option Value) (k : Int) (v : Value) : Int → Option Value := fun x => if x = k then some v else F x
def fDel (F : Int → Option Value) (k : Int) : Int → Option Value := fun x => if x = k then none else F x
theorem fSet_self (F : Int → Option Value) (k : Int) (v : Value) : fSet F k v k = some v := by simp [fSet]
theorem fSet_ne (F : Int → Option Value) {k x : Int} (v : Value) (h : x ≠ k) : fSet F k v x = F x := by simp [fSet, h]
section
variable {P : Program} {w w' : World} {mb : Nat} {F : Int → Option Value} {mt kt et : TypeId}
theorem MapI.lt (h : MapI w mb F) : mb < w.heap.size := by
  obtain ⟨es, clock, hb, _⟩ := h
  exact (Array.getElem?_eq_some_iff.1 hb).1
theorem MapI.only {S : Nat → Prop} (h : MapI w mb F) (ho : Only S w w') (hn : ¬ S mb) : MapI w' mb F := by
  obtain ⟨es, clock, hb, h1⟩ := h
  exact ⟨es, clock, (ho.block mb (Array.getElem?_eq_some_iff.1 hb).1 hn).trans hb, h1⟩
theorem MapI.keep (h : MapI w mb F) (ho : Only Non w w') : MapI w' mb F := h.only ho id
theorem MapI.ne {g : Nat} {t : TypeId} {cs : Array Value} (h : MapI w mb F) (hb : Box w g t cs) : g ≠ mb := by
  rintro rfl
  obtain ⟨es, clock, h1, _⟩ := h
  unfold Box at hb
  rw [h1] at hb
  cases hb
theorem MapI.made (w : World) : MapI (w.alloc (.map #[] 0)) w.heap.size (fun _ => none) :=
  ⟨#[], 0, heap_alloc_new w _, stamped_empty 0, fun e he => by simp at he, fun k v h => by cases h⟩
theorem MapI.found (h : MapI w mb F) (hk : P.underlying kt = some (.int .i64)) {k : Int} (hi : I64 k) :
    ∃ es clock, w.heap[mb]? = some (.map es clock) ∧ Stamped es clock ∧ (∀ e ∈ es.toList, ∃ k, I64 k ∧ e.key = .int .i64 k ∧ F k = some e.val) ∧ (∀ k v, F k = some v → ∃ e ∈ es.toList, e.key = .int .i64 k) ∧
      (∀ em, (Instr.checkKey em 10000 kt (.int .i64 k)).run P w = .ok () w) ∧
      (((Instr.findKey kt (.int .i64 k) es.toList).run P w = .ok none w ∧ F k = none ∧ ∀ e ∈ es.toList, e.key ≠ .int .i64 k) ∨
       ∃ j e, (Instr.findKey kt (.int .i64 k) es.toList).run P w = .ok (some (j, e.val)) w ∧ es[j]? = some e ∧ e.key = .int .i64 k ∧ F k = some e.val) := by
  obtain ⟨es, clock, hb, hs, h1, h2⟩ := h
  have K : Keyed P kt := int_keyed hk
  have hkey := keyOf_int_mk hk hi.wf
  refine ⟨es, clock, hb, hs, h1, h2, fun em => K.check w em hkey, ?_⟩
  rcases K.find w hkey es.toList (fun e he => by obtain ⟨x, hx, e1, _⟩ := h1 e he; rw [e1]; exact ⟨_, keyOf_int_mk hk hx.wf⟩) with ⟨hf, hno⟩ | ⟨j, e, hf, hj, he⟩
  · refine .inl ⟨hf, ?_, hno⟩
    cases hF : F k with
    | none => rfl
    | some v =>
      obtain ⟨e, he, e1⟩ := h2 k v hF
      exact absurd e1 (hno e he)
  · refine .inr ⟨j, e, hf, by simpa using hj, he, ?_⟩
    obtain ⟨x, _, e1, e2⟩ := h1 e (List.mem_of_getElem? hj)
    rw [he] at e1
    injection e1 with _ e1
    rw [e1]; exact e2
/-- m[k] -/
theorem run_look_i (h : MapI w mb F) (hm : P.underlying mt = some (.map kt et)) (hk : P.underlying kt = some (.int .i64)) {z : Value} (hz : (zeroValue et).run P w = .ok z w) {k : Int} (hi : I64 k) :
    (Instr.lookup mt (.map (some mb)) (.int .i64 k) false).run P w = .ok ((F k).getD z) w := by
  obtain ⟨es, clock, hb, hs, h1, h2, hck, ⟨hf, hn, _⟩ | ⟨j, e, hf, hj, he, hn⟩⟩ := h.found hk hi
  · simp [Instr.lookup, run_underlying hm, MapKept.run_getObj_map hb, hck, hf, hz, Result.andThen, hn]
  · simp [Instr.lookup, run_underlying hm, MapKept.run_getObj_map hb, hck, hf, Result.andThen, hn]
/-- m[k], with ok -/
theorem run_look2_i (h : MapI w mb F) (hm : P.underlying mt = some (.map kt et)) (hk : P.underlying kt = some (.int .i64)) {z : Value} (hz : (zeroValue et).run P w = .ok z w) {k : Int} (hi : I64 k) :
    (Instr.lookup mt (.map (some mb)) (.int .i64 k) true).run P w = .ok (.tuple #[(F k).getD z, .bool (F k).isSome]) w := by
  obtain ⟨es, clock, hb, hs, h1, h2, hck, ⟨hf, hn, _⟩ | ⟨j, e, hf, hj, he, hn⟩⟩ := h.found hk hi
  · simp [Instr.lookup, run_underlying hm, MapKept.run_getObj_map hb, hck, hf, hz, Result.andThen, hn]
  · simp [Instr.lookup, run_underlying hm, MapKept.run_getObj_map hb, hck, hf, Result.andThen, hn]
theorem set_only (w : World) (mb : Nat) (o : Obj) : Only (Just mb) w { w with heap := w.heap.setIfInBounds mb o } :=
  ⟨rfl, rfl, rfl, by simp, fun k hk hne => by
    have : mb ≠ k := fun e => hne (show k = mb from e.symm)
    simp [this]⟩
/-- m[k] = v -/
theorem run_put_i (h : MapI w mb F) (hm : P.underlying mt = some (.map kt et)) (hk : P.underlying kt = some (.int .i64)) {k : Int} (hi : I64 k) (v : Value) :
    ∃ w', (Instr.mapUpdate mt (.map (some mb)) (.int .i64 k) v).run P w = .ok () w' ∧ MapI w' mb (fSet F k v) ∧ Only (Just mb) w w' := by
  obtain ⟨es, clock, hb, hs, h1, h2, hck, ⟨hf, hn, hno⟩ | ⟨j, e, hf, hj, he, hn⟩⟩ := h.found hk hi
  · refine ⟨{ w with heap := w.heap.setIfInBounds mb (.map (es.push { key := .int .i64 k, val := v, born := clock }) (clock + 1)) }, ?_, ?_, set_only _ _ _⟩
    · simp [Instr.mapUpdate, run_underlying hm, MapKept.run_getObj_map hb, hck, hf, MapKept.run_setObj_map _ hb, Result.andThen]
    · refine ⟨_, _, (heap_set hb).1, stamped_push hs hno, fun x hx => ?_, fun k' v' hF => ?_⟩
      · simp only [Array.toList_push, List.mem_append, List.mem_singleton] at hx
        rcases hx with hx | rfl
        · obtain ⟨y, hy, e1, e2⟩ := h1 x hx
          refine ⟨y, hy, e1, ?_⟩
          rw [fSet_ne _ _ (fun e => hno x hx (by rw [e1, e]))]; exact e2
        · exact ⟨k, hi, rfl, fSet_self _ _ _⟩
      · simp only [Array.toList_push, List.mem_append, List.mem_singleton]
        by_cases e : k' = k
        · exact ⟨_, .inr rfl, by rw [e]⟩
        · rw [fSet_ne _ _ e] at hF
          obtain ⟨x, hx, e1⟩ := h2 k' v' hF
          exact ⟨x, .inl hx, e1⟩
  · have hst : (Instr.keyThatStays (.int .i64 k) (.int .i64 k)).run P w = .ok (.int .i64 k) w := run_keyThatStays (d := .int .i64) rfl
    refine ⟨{ w with heap := w.heap.setIfInBounds mb (.map (es.modify j fun e => { e with key := .int .i64 k, val := v }) clock) }, ?_, ?_, set_only _ _ _⟩
    · simp [Instr.mapUpdate, run_underlying hm, MapKept.run_getObj_map hb, hck, hf, hj, he, hst, MapKept.run_setObj_map _ hb, Result.andThen]
    · have hkey : ∀ e', es[j]? = some e' → ({ e' with key := .int .i64 k, val := v } : MapEntry).key = e'.key := fun e' he' => by rw [hj] at he'; cases he'; exact he.symm
      refine ⟨_, _, (heap_set hb).1, stamped_modify hs _ _ (fun _ _ => rfl) (fun e' _ he' => hkey e' he'), fun x hx => ?_, fun k' v' hF => ?_⟩
      · obtain ⟨i, hil, rfl⟩ := Array.mem_iff_getElem.1 (Array.mem_toList_iff.1 hx)
        have hil' : i < es.size := by simpa using hil
        by_cases hij : j = i
        · subst hij
          rw [Array.getElem_modify]
          exact ⟨k, hi, by simp, by simp [fSet_self]⟩
        · have e0 : (es.modify j fun e => { e with key := .int .i64 k, val := v })[i] = es[i] := by rw [Array.getElem_modify]; simp [hij]
          rw [e0]
          obtain ⟨y, hy, e1, e2⟩ := h1 es[i] (Array.mem_toList_iff.2 (Array.getElem_mem hil'))
          refine ⟨y, hy, e1, ?_⟩
          rw [fSet_ne _ _ ?_]; exact e2
          rintro rfl
          have hjl : j < es.size := (Array.getElem?_eq_some_iff.1 hj).1
          have hje : es[j] = e := (Array.getElem?_eq_some_iff.1 hj).2
          have hnd := List.pairwise_iff_getElem.1 hs.2.2
          have hL : (es.toList.map (·.key)).length = es.size := by simp
          rcases Nat.lt_or_gt_of_ne hij with h | h
          · have := hnd j i (by omega) (by omega) h
            simp only [List.getElem_map, Array.getElem_toList] at this
            exact this (by rw [hje, he, e1])
          · have := hnd i j (by omega) (by omega) h
            simp only [List.getElem_map, Array.getElem_toList] at this
            exact this (by rw [hje, he, e1])
      · have hkeys := modify_keys (es := es) j (fun e => { e with key := .int .i64 k, val := v }) hkey
        have hmem : Value.int .i64 k' ∈ es.toList.map (·.key) := by
          by_cases e' : k' = k
          · rw [e', ← he]; exact List.mem_map.2 ⟨e, Array.mem_toList_iff.2 (Array.mem_of_getElem? hj), rfl⟩
          · rw [fSet_ne _ _ e'] at hF
            obtain ⟨x, hx, e1⟩ := h2 k' v' hF
            exact List.mem_map.2 ⟨x, hx, e1⟩
        rw [← hkeys] at hmem
        obtain ⟨x, hx, e1⟩ := List.mem_map.1 hmem
        exact ⟨x, hx, e1⟩
theorem wpList_put_i {ops : Array Oper} {rest : List Oper} {o : Oper} {a : Act} {Q : Exit → Act → World → Prop} (w : World) (hg : o.guard = none) (m x v : Operand) (hop : o.op = Op.mapUpdate mt m x v)
    (hmt : P.underlying mt = some (.map kt et)) (hkt : P.underlying kt = some (.int .i64))
    (mb : Nat) (F : Int → Option Value) (k : Int) (u : Value) (hm : a.eval m = .map (some mb)) (hx : a.eval x = .int .i64 k) (hv : a.eval v = u) (h : MapI w mb F) (hk : I64 k)
    (hK : ∀ w', MapI w' mb (fSet F k u) → Only (Just mb) w w' → wpList P ops Q rest (a.put o.dst undef) w') : wpList P ops Q (o :: rest) a w := by
  refine wpList_plain hg fun K' hK' => ?_
  obtain ⟨w', hrun, r1, r2⟩ := run_put_i (P := P) h hmt hkt hk u
  unfold Oper.wp
  simp [execOp, hop, hm, hx, hv, hrun, Result.andThen]
  exact hK' _ _ (hK w' r1 r2)
theorem wpList_look_i {ops : Array Oper} {rest : List Oper} {o : Oper} {a : Act} {Q : Exit → Act → World → Prop} (w : World) (hg : o.guard = none) (m x : Operand) (hop : o.op = Op.lookup mt m x false)
    (hmt : P.underlying mt = some (.map kt et)) (hkt : P.underlying kt = some (.int .i64)) (z : Value) (hz : (zeroValue et).run P w = .ok z w)
    (mb : Nat) (F : Int → Option Value) (k : Int) (hm : a.eval m = .map (some mb)) (hx : a.eval x = .int .i64 k) (h : MapI w mb F) (hk : I64 k)
    (hK : wpList P ops Q rest (a.put o.dst ((F k).getD z)) w) : wpList P ops Q (o :: rest) a w := by
  refine wpList_plain hg fun K' hK' => ?_
  have hrun := run_look_i (P := P) h hmt hkt hz hk
  unfold Oper.wp
  simp [execOp, hop, hm, hx, hrun, Result.andThen]
  exact hK' _ _ hK
/-- delete(m, k) -/
theorem run_delete_i (h : MapI w mb F) (hm : P.underlying mt = some (.map kt et)) (hk : P.underlying kt = some (.int .i64)) {k : Int} (hi : I64 k) (ty : TypeId) :
    ∃ v w', (Builtin.delete_ #[mt, kt] ty #[.map (some mb), .int .i64 k]).run P w = .ok v w' ∧ MapI w' mb (fDel F k) ∧ Only (Just mb) w w' := by
  obtain ⟨es, clock, hb, hs, h1, h2, hck, ⟨hf, hn, hno⟩ | ⟨j, e, hf, hj, he, hn⟩⟩ := h.found hk hi
  · refine ⟨_, { w with heap := w.heap.setIfInBounds mb (.map es clock) }, by simp [Builtin.delete_, run_underlying hm, MapKept.run_getObj_map hb, hck, hf, MapKept.run_setObj_map _ hb, Result.andThen]; rfl, ?_, set_only _ _ _⟩
    refine ⟨_, _, (heap_set hb).1, hs, fun x hx => ?_, fun k' v' hF => ?_⟩
    · obtain ⟨y, hy, e1, e2⟩ := h1 x hx
      refine ⟨y, hy, e1, ?_⟩
      have : y ≠ k := fun e => hno x hx (by rw [e1, e])
      simp [fDel, this, e2]
    · unfold fDel at hF
      split at hF
      · cases hF
      · exact h2 k' v' hF
  · refine ⟨_, { w with heap := w.heap.setIfInBounds mb (.map (es.eraseIdxIfInBounds j) clock) }, by simp [Builtin.delete_, run_underlying hm, MapKept.run_getObj_map hb, hck, hf, MapKept.run_setObj_map _ hb, Result.andThen]; rfl, ?_, set_only _ _ _⟩
    have hjl : j < es.size := (Array.getElem?_eq_some_iff.1 hj).1
    have hje : es[j] = e := (Array.getElem?_eq_some_iff.1 hj).2
    have hl : (es.eraseIdxIfInBounds j).toList = es.toList.eraseIdx j := by
      unfold Array.eraseIdxIfInBounds
      rw [dif_pos hjl, Array.toList_eraseIdx]
    have hnd := List.pairwise_iff_getElem.1 hs.2.2
    have hL : (es.toList.map (·.key)).length = es.size := by simp
    have hone : ∀ i (hil : i < es.size), es[i].key = .int .i64 k → i = j := fun i hil hki => by
      rcases Nat.lt_trichotomy i j with h | h | h
      · have := hnd i j (by omega) (by omega) h
        simp only [List.getElem_map, Array.getElem_toList] at this
        exact absurd (by rw [hje, he, hki]) this
      · exact h
      · have := hnd j i (by omega) (by omega) h
        simp only [List.getElem_map, Array.getElem_toList] at this
        exact absurd (by rw [hje, he, hki]) this
    refine ⟨_, _, (heap_set hb).1, stamped_erase hs _, fun x hx => ?_, fun k' v' hF => ?_⟩
    · rw [hl] at hx
      obtain ⟨i, hij, hgi⟩ := List.mem_eraseIdx_iff_getElem?.1 hx
      have hil : i < es.size := by have := (List.getElem?_eq_some_iff.1 hgi).1; simpa using this
      obtain ⟨y, hy, e1, e2⟩ := h1 x (List.mem_of_getElem? hgi)
      refine ⟨y, hy, e1, ?_⟩
      have : y ≠ k := fun e => hij (hone i hil (by
        have : es[i] = x := by have := (List.getElem?_eq_some_iff.1 hgi).2; simpa using this
        rw [this, e1, e]))
      simp [fDel, this, e2]
    · unfold fDel at hF
      split at hF
      · cases hF
      · rename_i hne
        obtain ⟨x, hx, e1⟩ := h2 k' v' hF
        refine ⟨x, ?_, e1⟩
        rw [hl]
        obtain ⟨i, hil, rfl⟩ := List.mem_iff_getElem.1 hx
        refine List.mem_eraseIdx_iff_getElem?.2 ⟨i, ?_, List.getElem?_eq_getElem hil⟩
        rintro rfl
        simp only [Array.getElem_toList] at e1
        rw [hje, he] at e1
        injection e1 with _ e1
        exact hne e1.symm
/-- clear(m) -/
theorem run_clear_i (h : MapI w mb F) (hm : P.underlying mt = some (.map kt et)) (ty : TypeId) :
    ∃ v w', (Builtin.clear_ #[mt] ty #[.map (some mb)]).run P w = .ok v w' ∧ MapI w' mb (fun _ => none) ∧ Only (Just mb) w w' := by
  obtain ⟨es, clock, hb, hs, h1, h2⟩ := h
  exact ⟨_, { w with heap := w.heap.setIfInBounds mb (.map #[] clock) }, by simp [Builtin.clear_, run_underlying hm, MapKept.run_getObj_map hb, MapKept.run_setObj_map _ hb, Result.andThen]; rfl,
    ⟨#[], clock, (heap_set hb).1, stamped_empty _, fun e he => by simp at he, fun k v h => by cases h⟩, set_only _ _ _⟩
end
end Go.Proofs.YtcphifphidcbaaaGreat
