/- Acts that came in, copied behind an empty slice. -/
import Derived.Test.YtaofjnpmnaohcaaGetD
import Derived.Test.YtaofjnpmnaohcaaOpen
namespace Go.Proofs.Ytaofjnpmnaohcaa
open Go.RowKit
set_option linter.unusedVariables false
def Ret (v : Value) (S : Nat → Prop) (w : World) (e : Ending) (w' : World) : Prop := e = .returned v ∧ Only S w w'
theorem acts_of_row {base : Nat} {w : World} {v : Value} {L : List (ActR × Value)} (h : w.ownsRow base 47 5 v L.length (L.flatMap fun p => aCells p.1 p.2)) (hd : ∀ p ∈ L, ∃ dA dc, p.2 = .slice dA p.1.data.length dc ∧ Byt w p.2 p.1.data) :
    ∃ A c, v = .slice A L.length c ∧ ActsAt w A L.length c (L.map Prod.fst) := by
  rcases h.2 with ⟨e, h0⟩ | ⟨g, cap, cur, e, hb, hg, hn, hm, hs, ht⟩
  · rw [h0]
    refine ⟨none, 0, e, by rw [List.length_map]; exact h0.symm, Nat.le_refl _, Nat.zero_le _, fun i hi => ?_⟩
    rw [List.length_map] at hi
    omega
  · refine ⟨some ⟨g, 0, none⟩, cap, e, by rw [List.length_map], hn, hm, fun i hi => ?_⟩
    rw [List.length_map] at hi
    have hc := fun j (hj : j < 5) u (hu : (aCells (L.getD i default).1 (L.getD i default).2)[j]? = some u) => h.cells (g := g) (by rw [e]; rfl) (i * 5 + j) u (by rw [flat_at (fun p : ActR × Value => aCells p.1 p.2) 5 default (fun _ => rfl) L i j hi hj]; exact hu)
    simp only [Addr.add_lit, Nat.zero_add] at hc
    have hmem : L.getD i default ∈ L := by simp [List.getD, hi]
    obtain ⟨dA, dc, ev, hby⟩ := hd _ hmem
    have hget : (L.map Prod.fst).getD i default = (L.getD i default).1 := by simp [List.getD, hi]
    rw [hget]
    refine ⟨g, 0, dA, dc, rfl, (Array.getElem?_eq_some_iff.1 hg).1, ?_, ?_, ?_, ?_, ?_, ?_⟩
    · have := hc 0 (by decide) _ rfl; simpa using this
    · have := hc 1 (by decide) _ rfl; simpa using this
    · have := hc 2 (by decide) _ rfl; simpa using this
    · have := hc 3 (by decide) _ rfl; simpa using this
    · have := hc 4 (by decide) _ rfl; rw [ev] at this; simpa using this
    · rw [← ev]; exact hby
theorem acts_pairs {w : World} {A : Option Addr} {n c : Nat} {l : List ActR} (h : ActsAt w A n c l) : ∃ L : List (ActR × Value), L.map Prod.fst = l ∧ (∀ p ∈ L, ∃ dA dc, p.2 = .slice dA p.1.data.length dc ∧ Byt w p.2 p.1.data) ∧
    ∀ ad, A = some ad → ∀ j u, (L.flatMap fun p => aCells p.1 p.2)[j]? = some u → w.cell? (ad.add j) = some u := by
  obtain ⟨L, hL, hR⟩ := choose_list l.length (default : ActR × Value) (fun i p => p.1 = l.getD i default ∧ ∃ g o dA dc, A = some ⟨g, o, none⟩ ∧ p.2 = .slice dA p.1.data.length dc ∧ Byt w p.2 p.1.data ∧ ∀ j u, j < 5 → (aCells p.1 p.2)[j]? = some u → w.cell? ⟨g, o + i * 5 + j, none⟩ = some u) (fun i hi => by
    obtain ⟨g, o, dA, dc, e, hg, h0, h1, h2, h3, h4, h5⟩ := h.at_ i hi
    refine ⟨(l.getD i default, .slice dA (l.getD i default).data.length dc), rfl, g, o, dA, dc, e, rfl, h5, fun j u hj hu => ?_⟩
    rcases (show j = 0 ∨ j = 1 ∨ j = 2 ∨ j = 3 ∨ j = 4 from by omega) with rfl | rfl | rfl | rfl | rfl <;> (simp only [aCells, List.getElem?_cons_zero, List.getElem?_cons_succ, Option.some.injEq] at hu; subst hu; assumption))
  refine ⟨L, ?_, ?_, ?_⟩
  · apply List.ext_getElem?
    intro i
    by_cases hi : i < l.length
    · have h1 := (hR i hi).1
      rw [List.getElem?_map, List.getElem?_eq_getElem (by omega), List.getElem?_eq_getElem hi]
      have e1 : (L.getD i default) = L[i]'(by omega) := by simp [List.getD, show i < L.length by omega]
      have e2 : (l.getD i default) = l[i] := by simp [List.getD, hi]
      rw [e1, e2] at h1
      show some (L[i]'(by omega)).1 = some l[i]
      rw [h1]
    · rw [List.getElem?_eq_none (by rw [List.length_map]; omega), List.getElem?_eq_none (by omega)]
  · intro p hp
    obtain ⟨i, hi, rfl⟩ := List.mem_iff_getElem.1 hp
    obtain ⟨_, g, o, dA, dc, _, h1, h2, _⟩ := hR i (by omega)
    have e : L.getD i default = L[i] := by simp [List.getD, hi]
    rw [e] at h1 h2
    exact ⟨dA, dc, h1, h2⟩
  · intro ad had j u hj
    have hlen : (L.flatMap fun p => aCells p.1 p.2).length = L.length * 5 := by
      rw [List.length_flatMap]
      have : (L.map fun p => (aCells p.1 p.2).length) = L.map fun _ => 5 := rfl
      rw [this, List.map_const', List.sum_replicate_nat]
    have hjl : j < L.length * 5 := by rw [← hlen]; exact (List.getElem?_eq_some_iff.1 hj).1
    have hi : j / 5 < L.length := by omega
    obtain ⟨_, g, o, dA, dc, e, _, _, h4⟩ := hR (j / 5) (by omega)
    rw [had] at e
    injection e with e
    subst e
    have hd : j = j / 5 * 5 + j % 5 := by omega
    rw [hd, flat_at (fun p : ActR × Value => aCells p.1 p.2) 5 default (fun _ => rfl) L (j / 5) (j % 5) hi (by omega)] at hj
    have := h4 (j % 5) u (by omega) hj
    rw [Addr.add_lit]
    rw [show o + j = o + j / 5 * 5 + j % 5 from by omega]
    exact this
theorem wp_append_acts {o : Oper} {a : Act} {w : World} {K : Act → World → Prop} {Q : Exit → Act → World → Prop} (s x : Operand)
    (ho : o.op = .call { callee := .builtin .append, args := #[s, x], argTypes := #[26, 26] }) (g : Nat) (hs : a.eval s = .slice (some ⟨g, 0, none⟩) 0 0) (hb : Box w g 47 #[])
    (A : Option Addr) (c : Nat) (l : List ActR) (hx : a.eval x = .slice A l.length c) (hl : ActsAt w A l.length c l) (hn : l.length ≤ 100000)
    (h : ∀ D cd w', ActsAt w' D l.length cd l → Only (Just g) w w' → K (a.put o.dst (.slice D l.length cd)) w') : o.wp Try.prog a w K Q := by
  obtain ⟨i, hi, hz, hsz, hby⟩ := info_parts actInfo
  obtain ⟨L, hL, hd, hcells⟩ := acts_pairs hl
  have hLl : L.length = l.length := by rw [← hL, List.length_map]
  cases A with
  | none =>
    have hl0 : l = [] := by
      cases l with
      | nil => rfl
      | cons y ys => obtain ⟨g', o', dA, dc, e, _⟩ := hl.at_ 0 (Nat.zero_lt_succ _); cases e
    subst hl0
    have hr : (Builtin.append_ #[26, 26] o.type #[.slice (some ⟨g, 0, none⟩) 0 0, .slice none 0 c]).run Try.prog w = .ok (.slice (some ⟨g, 0, none⟩) 0 0) w := by
      simp [Builtin.append_, run_underlying Try.underlying26, sizeOf, typeInfo, hi, Builtin.lenOf, Builtin.firstCells, storeCells]
    unfold Oper.wp execOp
    simp only [ho, resolve, invoke, builtin, Sem.run_bind, Sem.run_pure, Result.andThen_ok, List.map_toArray, List.map_cons, List.map_nil, hs, hx, List.length_nil, hr]
    exact h _ _ w ⟨rfl, Nat.le_refl _, Nat.zero_le _, fun i hi => absurd hi (Nat.not_lt_zero _)⟩ (Only.refl _ _)
  | some ad =>
    have hrow : w.ownsRow g 47 5 (.slice (some ⟨g, 0, none⟩) 0 0) 0 [] := ⟨rfl, .inr ⟨g, 0, #[], rfl, Nat.le_refl _, hb, Nat.le_refl _, Nat.zero_le _, rfl, rfl⟩⟩
    have hnl : (L.flatMap fun p => aCells p.1 p.2).length = l.length * 5 := by
      rw [List.length_flatMap]
      have : (L.map fun p => (aCells p.1 p.2).length) = L.map fun _ => 5 := rfl
      rw [this, ← hLl, List.map_const', List.sum_replicate_nat]
    obtain ⟨v', w', hr, h2, h3, _⟩ := run_append_own (P := Try.prog) w g 26 o.type 47 i _ 5 56 Try.underlying26 hi hz hsz hby rfl (by decide) _ 0 [] hrow ad l.length c (L.flatMap fun p => aCells p.1 p.2) hnl (hcells ad rfl) (fun u hu => by
      obtain ⟨p, hp, hu⟩ := List.mem_flatMap.1 hu
      obtain ⟨dA, dc, e, _⟩ := hd p hp
      simp only [aCells, e, List.mem_cons, List.not_mem_nil, or_false] at hu
      rcases hu with rfl | rfl | rfl | rfl | rfl <;> rfl) (by unfold maxLen; omega) (by omega) (Nat.le_of_lt hb.lt)
    have ho' : Only (Just g) w w' := (Only.refl _ _).grown h3 fun k hk => .inl (by
      have : some g = some k := hk
      injection this with this
      exact this.symm)
    rw [Nat.zero_add, List.nil_append, ← hLl] at h2
    obtain ⟨D, cd, e, hA⟩ := acts_of_row h2 (fun p hp => by
      obtain ⟨dA, dc, e, hB⟩ := hd p hp
      refine ⟨dA, dc, e, hB.keep ho' fun hz k hk _ hj => ?_⟩
      have hj : k = g := hj
      subst hj
      have hB' := hB
      rw [e] at hB'
      obtain ⟨g', o', e', hc'⟩ := hB'.cellAt hz
      rw [e, e'] at hk
      have := ownB_slice.1 hk
      subst this
      rw [hb.cell] at hc'
      simp at hc')
    rw [hLl] at e hA
    rw [hL] at hA
    subst e
    unfold Oper.wp execOp
    simp only [ho, resolve, invoke, builtin, Sem.run_bind, Sem.run_pure, Result.andThen_ok, List.map_toArray, List.map_cons, List.map_nil, hs, hx, hr]
    exact h D cd w' hA ho'
end Go.Proofs.Ytaofjnpmnaohcaa
