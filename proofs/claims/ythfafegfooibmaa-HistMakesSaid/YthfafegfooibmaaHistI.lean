/- Operations in a row of the call's own; append. -/
import Derived.Test.YthfafegfooibmaaHistH
import Derived.Test.YthfafegfooibmaaHistR
import Derived.Test.YthfafegfooibmaaTail
namespace Go.Proofs.Ythfafegfooibmaa
open Go.RowKit Go.ChangeShapes Go.WideShapes
set_option linter.unusedVariables false
set_option linter.unusedSimpArgs false
theorem flat_at {α β : Type} (f : α → List β) (s : Nat) (d : α) (hf : ∀ a, (f a).length = s) : ∀ (l : List α) (i j : Nat), i < l.length → j < s → (l.flatMap f)[i * s + j]? = (f (l.getD i d))[j]?
  | [], i, j, h, _ => absurd h (Nat.not_lt_zero _)
  | a :: l, 0, j, _, hj => by
    rw [List.flatMap_cons, Nat.zero_mul, Nat.zero_add, List.getElem?_append_left (by rw [hf]; exact hj)]
    rfl
  | a :: l, i + 1, j, h, hj => by
    rw [List.flatMap_cons, List.getElem?_append_right (by rw [hf, Nat.succ_mul]; omega), hf, show (i + 1) * s + j - s = i * s + j from by rw [Nat.succ_mul]; omega]
    exact flat_at f s d hf l i j (by simpa using h) hj
abbrev DP := DoneR × Value
def dC (p : DP) : List Value := (doneC p.1 p.2).toList
theorem dC_len (p : DP) : (dC p).length = 10 := rfl
theorem flat_len (L : List DP) : (L.flatMap dC).length = L.length * 10 := by
  rw [List.length_flatMap]
  have : (L.map fun p => (dC p).length) = L.map fun _ => 10 := rfl
  rw [this, List.map_const', List.sum_replicate_nat]
/-- its bytes are there; if there are any, in none of the blocks F -/
def DataOk (w : World) (F : Nat → Prop) (p : DP) : Prop := ∃ dA dc, p.2 = .slice dA p.1.data.length dc ∧ Byt w p.2 p.1.data ∧ (0 < p.1.data.length → ∀ k, ownB p.2 k → k < w.heap.size ∧ ¬ F k)
theorem byt_lt {w : World} {v : Value} {l : List Int} (h : Byt w v l) (hl : 0 < l.length) : ∀ k, ownB v k → k < w.heap.size := by
  intro k hk
  obtain ⟨A, c, rfl, h1, h2, h3⟩ := h
  have h : Byt w (.slice A l.length c) l := ⟨A, c, rfl, h1, h2, h3⟩
  obtain ⟨g, o, rfl, hc⟩ := h.cellAt hl
  obtain rfl := ownB_slice.1 hk
  exact World.block_lt_of_cell? w _ hc
theorem DataOk.only {S F F' : Nat → Prop} {w w' : World} {p : DP} (h : DataOk w F p) (ho : Only S w w') (hS : ∀ k, S k → F k) (hF : ∀ k, F' k → F k ∨ w.heap.size ≤ k) : DataOk w' F' p := by
  obtain ⟨dA, dc, e, hb, hn⟩ := h
  exact ⟨dA, dc, e, hb.keep ho fun h0 k hk _ hs => (hn h0 k hk).2 (hS k hs), fun h0 k hk => ⟨Nat.lt_of_lt_of_le (hn h0 k hk).1 ho.size, fun hf => (hF k hf).elim (hn h0 k hk).2 fun h => by have := (hn h0 k hk).1; omega⟩⟩
/-- a row of the call's own -/
def OwnD (w : World) (base : Nat) (v : Value) (L : List DP) : Prop := w.ownsRow base 33 10 v L.length (L.flatMap dC) ∧ ∀ p ∈ L, DataOk w (ownB v) p
theorem OwnD.keep {w w' : World} {base : Nat} {v : Value} {L : List DP} (h : OwnD w base v L) (ho : Only Non w w') : OwnD w' base v L :=
  ⟨ownsRow_only h.1 ho fun _ _ => id, fun p hp => (h.2 p hp).only ho (fun _ hk => hk.elim) fun _ hk => .inl hk⟩
theorem OwnD.far {S : Nat → Prop} {w w' : World} {base : Nat} {v : Value} {L : List DP} (h : OwnD w base v L) (ho : Only S w w') (h1 : ∀ k, ownB v k → ¬ S k) (h2 : ∀ p ∈ L, 0 < p.1.data.length → ∀ k, ownB p.2 k → ¬ S k) : OwnD w' base v L :=
  ⟨ownsRow_only h.1 ho h1, fun p hp => by
    obtain ⟨dA, dc, e, hb, hn⟩ := h.2 p hp
    exact ⟨dA, dc, e, hb.keep ho fun h0 k hk _ => h2 p hp h0 k hk, fun h0 k hk => ⟨Nat.lt_of_lt_of_le (hn h0 k hk).1 ho.size, (hn h0 k hk).2⟩⟩⟩
theorem OwnD.nil (w : World) (base : Nat) : OwnD w base (.slice none 0 0) [] := ⟨World.ownsRow_nil _ _ _ _, fun p hp => by cases hp⟩
theorem OwnD.empty (w : World) {base : Nat} (hb : base ≤ w.heap.size) : OwnD (w.alloc (.cells #[] 33)) base (.slice (some ⟨w.heap.size, 0, none⟩) 0 0) [] :=
  ⟨⟨rfl, .inr ⟨w.heap.size, 0, #[], rfl, hb, Box.fresh w 33 #[], Nat.le_refl _, Nat.zero_le _, rfl, rfl⟩⟩, fun p hp => by cases hp⟩
theorem OwnD.at_ {w : World} {base : Nat} {v : Value} {L : List DP} (h : OwnD w base v L) : ∃ A c, v = .slice A L.length c ∧ DonesAt w A (L.map Prod.fst).length c (L.map Prod.fst) := by
  obtain ⟨h, hd⟩ := h
  rcases h.2 with ⟨e, h0⟩ | ⟨g, cap, cur, e, hb, hg, hn, hm, hs, ht⟩
  · rw [h0]
    refine ⟨none, 0, e, rfl, by rw [List.length_map, h0]; exact Nat.le_refl _, Nat.zero_le _, fun i hi => ?_⟩
    rw [List.length_map] at hi
    omega
  · refine ⟨some ⟨g, 0, none⟩, cap, e, rfl, by rw [List.length_map]; exact hn, hm, fun i hi => ?_⟩
    rw [List.length_map] at hi
    have hmem : L.getD i default ∈ L := by simp [List.getD, hi]
    obtain ⟨dA, dc, ev, hby, _⟩ := hd _ hmem
    have hget : (L.map Prod.fst).getD i default = (L.getD i default).1 := by simp [List.getD, hi]
    rw [hget]
    refine ⟨g, 0, dA, dc, rfl, (Array.getElem?_eq_some_iff.1 hg).1, fun j u hu => ?_, by rw [← ev]; exact hby⟩
    have hj : j < 10 := by
      have := (Array.getElem?_eq_some_iff.1 hu).1
      simpa [doneC] using this
    rw [← ev] at hu
    have hc := h.cells (g := g) (by rw [e]; rfl) (i * 10 + j) u (by rw [flat_at dC 10 default dC_len L i j hi hj]; unfold dC; rw [Array.getElem?_toList]; exact hu)
    rw [Addr.add_lit, ← Nat.add_assoc] at hc
    exact hc
/-- operations that came in, by pairs -/
theorem dones_pairs {w : World} {A : Option Addr} {n c : Nat} {l : List DoneR} (h : DonesAt w A n c l) : ∃ L : List DP, L.map Prod.fst = l ∧ (∀ p ∈ L, DataOk w (fun k => w.heap.size ≤ k) p) ∧ ∀ ad, A = some ad → ∀ j u, (L.flatMap dC)[j]? = some u → w.cell? (ad.add j) = some u := by
  obtain ⟨L, hL, hR⟩ := choose_list l.length (default : DP) (fun i p => p.1 = l.getD i default ∧ ∃ g o dA dc, A = some ⟨g, o, none⟩ ∧ p.2 = .slice dA p.1.data.length dc ∧ Byt w p.2 p.1.data ∧ ∀ j u, (doneC p.1 p.2)[j]? = some u → w.cell? ⟨g, o + i * 10 + j, none⟩ = some u) (fun i hi => by
    obtain ⟨g, o, dA, dc, e, hg, hc, hb⟩ := h.at_ i hi
    exact ⟨(l.getD i default, .slice dA (l.getD i default).data.length dc), rfl, g, o, dA, dc, e, rfl, hb, hc⟩)
  refine ⟨L, ?_, ?_, ?_⟩
  · apply List.ext_getElem?
    intro i
    by_cases hi : i < l.length
    · have h1 := (hR i hi).1
      rw [List.getElem?_map, List.getElem?_eq_getElem (by omega), List.getElem?_eq_getElem hi]
      have e1 : (L.getD i default) = L[i]'(by omega) := by simp [List.getD, show i < L.length by omega]
      have e2 : (l.getD i default) = l[i] := by simp [List.getD, hi]
      rw [e1, e2] at h1
      show some (L[i]'(by omega)).1 = some l[i]
      rw [h1]
    · rw [List.getElem?_eq_none (by rw [List.length_map]; omega), List.getElem?_eq_none (by omega)]
  · intro p hp
    obtain ⟨i, hi, rfl⟩ := List.mem_iff_getElem.1 hp
    obtain ⟨_, g, o, dA, dc, _, h1, h2, _⟩ := hR i (by omega)
    have e : L.getD i default = L[i] := by simp [List.getD, hi]
    rw [e] at h1 h2
    exact ⟨dA, dc, h1, h2, fun h0 k hk => ⟨byt_lt h2 h0 k hk, fun h => by have := byt_lt h2 h0 k hk; omega⟩⟩
  · intro ad had j u hj
    have hjl : j < L.length * 10 := by rw [← flat_len]; exact (List.getElem?_eq_some_iff.1 hj).1
    have hi : j / 10 < L.length := by omega
    obtain ⟨_, g, o, dA, dc, e, _, _, h4⟩ := hR (j / 10) (by omega)
    rw [had] at e
    injection e with e
    subst e
    have hd : j = j / 10 * 10 + j % 10 := by omega
    rw [hd, flat_at dC 10 default dC_len L (j / 10) (j % 10) hi (by omega)] at hj
    unfold dC at hj
    rw [Array.getElem?_toList] at hj
    have := h4 (j % 10) u hj
    rw [Addr.add_lit]
    rw [show o + j = o + j / 10 * 10 + j % 10 from by omega]
    exact this
theorem doneInfo : (Try.prog.info? 33).map (fun i => (i.zero, i.size, i.bytes)) = some (some (.agg zD), 10, 96) := by kernel_rfl
/-- append -/
theorem wp_append_dones {o : Oper} {a : Act} {w : World} {K : Act → World → Prop} {Q : Exit → Act → World → Prop} (s x : Operand)
    (ho : o.op = .call { callee := .builtin .append, args := #[s, x], argTypes := #[22, 22] }) (base : Nat) (v : Value) (L : List DP) (hs : a.eval s = v) (hown : OwnD w base v L)
    (A : Option Addr) (c : Nat) (L2 : List DP) (hx : a.eval x = .slice A L2.length c) (hA : A = none → L2 = []) (hcells : ∀ ad, A = some ad → ∀ j u, (L2.flatMap dC)[j]? = some u → w.cell? (ad.add j) = some u) (hd : ∀ p ∈ L2, DataOk w (ownB v) p)
    (hn : L.length + L2.length ≤ 100000) (hbase : base ≤ w.heap.size)
    (h : ∀ v' w', OwnD w' base v' (L ++ L2) → Only (ownB v) w w' → (∀ k, ownB v' k → ownB v k ∨ k = w.heap.size) → K (a.put o.dst v') w') : o.wp Try.prog a w K Q := by
  obtain ⟨i, hi, hz, hsz, hby⟩ := info_parts doneInfo
  obtain ⟨Av, nv, cv, ev, env, hnv, hmv⟩ := row_form' hown.1
  cases A with
  | none =>
    obtain rfl := hA rfl
    have hr : (Builtin.append_ #[22, 22] o.type #[v, .slice none 0 c]).run Try.prog w = .ok v w := by
      rw [ev]
      have h1 : nv ≤ cv := by omega
      cases Av <;> simp [Builtin.append_, run_underlying Try.underlying22, sizeOf, typeInfo, hi, Builtin.lenOf, Builtin.firstCells, storeCells, h1]
    unfold Oper.wp execOp
    simp only [ho, resolve, invoke, builtin, Sem.run_bind, Sem.run_pure, Result.andThen_ok, List.map_toArray, List.map_cons, List.map_nil, hs, hx, List.length_nil, hr]
    exact h _ w (by rw [List.append_nil]; exact hown) (Only.refl _ _) fun k hk => .inl hk
  | some ad =>
    obtain ⟨v', w', hr, h2, h3, _, h5⟩ := run_append_own_at (P := Try.prog) w base 22 o.type 33 i _ 10 96 Try.underlying22 hi hz hsz hby rfl (by decide) v L.length _ hown.1 ad L2.length c (L2.flatMap dC) (flat_len L2) (hcells ad rfl) (fun u hu => by
      obtain ⟨p, hp, hu⟩ := List.mem_flatMap.1 hu
      obtain ⟨dA, dc, e, _⟩ := hd p hp
      have := done_one p.1 dA p.1.data.length dc
      rw [← e] at this
      exact Array.all_eq_true'.1 this u (by simpa [dC] using hu)) (by unfold maxLen; omega) (by omega) hbase
    have ho' : Only (ownB v) w w' := (Only.refl _ _).grown h3 fun k hk => .inl hk
    have hnew : ∀ k, ownB v' k → ownB v k ∨ k = w.heap.size := fun k hk => by
      rcases h5 with e | e
      · exact .inl (show v.ownBlock = some k from e ▸ hk)
      · have hk : v'.ownBlock = some k := hk
        rw [e] at hk
        injection hk with hk
        exact .inr hk.symm
    have hown' : OwnD w' base v' (L ++ L2) := by
      refine ⟨by rw [List.length_append, List.flatMap_append]; exact h2, fun p hp => ?_⟩
      have hp' : DataOk w (ownB v) p := (List.mem_append.1 hp).elim (hown.2 p) (hd p)
      exact hp'.only ho' (fun _ hk => hk) fun k hk => (hnew k hk).imp id fun e => by omega
    unfold Oper.wp execOp
    simp only [ho, resolve, invoke, builtin, Sem.run_bind, Sem.run_pure, Result.andThen_ok, List.map_toArray, List.map_cons, List.map_nil, hs, hx, hr]
    exact h _ w' hown' ho' hnew
theorem wpList_append_dones {ops : Array Oper} {rest : List Oper} {o : Oper} {a : Act} {w : World} {Q : Exit → Act → World → Prop} (hgd : o.guard = none) (s x : Operand)
    (ho : o.op = .call { callee := .builtin .append, args := #[s, x], argTypes := #[22, 22] }) (base : Nat) (v : Value) (L : List DP) (hs : a.eval s = v) (hown : OwnD w base v L)
    (A : Option Addr) (c : Nat) (L2 : List DP) (hx : a.eval x = .slice A L2.length c) (hA : A = none → L2 = []) (hcells : ∀ ad, A = some ad → ∀ j u, (L2.flatMap dC)[j]? = some u → w.cell? (ad.add j) = some u) (hd : ∀ p ∈ L2, DataOk w (ownB v) p)
    (hn : L.length + L2.length ≤ 100000) (hbase : base ≤ w.heap.size)
    (h : ∀ v' w', OwnD w' base v' (L ++ L2) → Only (ownB v) w w' → (∀ k, ownB v' k → ownB v k ∨ k = w.heap.size) → wpList Try.prog ops Q rest (a.put o.dst v') w') : wpList Try.prog ops Q (o :: rest) a w :=
  wpList_plain hgd fun _ hK => wp_append_dones s x ho base v L hs hown A c L2 hx hA hcells hd hn hbase fun v' w' h1 h2 h3 => hK _ _ (h v' w' h1 h2 h3)
end Go.Proofs.Ythfafegfooibmaa
