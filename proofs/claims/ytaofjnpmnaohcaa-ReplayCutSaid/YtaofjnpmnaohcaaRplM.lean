/- What a script's bytes, whole, cut off, or with a byte more, are read as. No walk. -/
import Derived.Test.YtaofjnpmnaohcaaGetC
namespace Go.Proofs.Ytaofjnpmnaohcaa
set_option linter.unusedVariables false
theorem isB_app {a b : List Int} (ha : IsB a) (hb : IsB b) : IsB (a ++ b) := fun x hx => (List.mem_append.1 hx).elim (ha x) (hb x)
theorem isB_enc {n : Nat} (h : n < 2 ^ 63) : IsB (encN n) := fun x hx => encF_range 8 n (by rw [show (128 : Nat) ^ (8 + 1) = 2 ^ 63 from by decide]; exact h) x hx
theorem isB_nil : IsB [] := fun x hx => by cases hx
theorem isB_nums {f : Nat → Int} : ∀ k, (∀ i, i < k → (f i).toNat < 2 ^ 63) → IsB (numsB f k)
  | 0, _ => isB_nil
  | k + 1, h => by
    rw [numsB_succ]
    exact isB_app (isB_nums k fun i hi => h i (by omega)) (isB_enc (h k (by omega)))
theorem isB_hs {c : CfgA} (hc : CfgP c) : ∀ k, k ≤ c.h.length → IsB (hsB c.h k)
  | 0, _ => by rw [hsB_zero]; exact isB_nil
  | k + 1, hk => by
    rw [hsB_succ c.h (by omega)]
    refine isB_app (isB_hs hc k (by omega)) ?_
    unfold hintB
    refine isB_app (isB_nums 3 fun i hi => ?_) ?_
    · have := okH_nums hc.p2.2 (hc.hs.1 k (by omega)) i hi
      omega
    · intro x hx
      cases hl : (c.h.getD k default).loop <;> rw [hl] at hx <;> simp [truthB] at hx <;> omega
theorem isB_conf {c : CfgA} (hc : CfgP c) : IsB (confB c) := by
  have h8 := hc.hs.2.2
  unfold confB confH
  refine isB_app (isB_app (isB_nums 16 fun i hi => ?_) (isB_enc (by omega))) (isB_hs hc _ (Nat.le_refl _))
  have := hc.range i hi
  omega
theorem isB_act {a : ActR} (h : ActP a) (hd : IsB a.data) : IsB (actB a) := by
  unfold actB
  have f1 := folded_lt a.a (by simpa [okNum] using h.2.1)
  have f2 := folded_lt a.b (by simpa [okNum] using h.2.2.1)
  have f3 := folded_lt a.n (by simpa [okNum] using h.2.2.2.1)
  exact isB_app (isB_enc (by have := h.1; omega)) (isB_app (isB_enc f1) (isB_app (isB_enc f2) (isB_app (isB_enc f3) (isB_app (isB_enc (by have := h.2.2.2.2; omega)) hd))))
theorem isB_script {c : CfgA} {l : List ActR} (h : ScriptP c l) (hd : ∀ i, i < l.length → IsB (l.getD i default).data) : IsB (scriptB c l) := by
  have hcl := confB_len c h.conf.hs.2.2
  unfold scriptB headB restB actsB
  refine isB_app (isB_app (isB_enc (by omega)) (isB_conf h.conf)) (isB_app (isB_enc (by have := h.few; omega)) ?_)
  intro x hx
  obtain ⟨m, hm, hxm⟩ := List.mem_flatten.1 hx
  obtain ⟨a, ha, rfl⟩ := List.mem_map.1 hm
  obtain ⟨i, hi, rfl⟩ := List.mem_iff_getElem.1 ha
  have e : l.getD i default = l[i] := by simp [List.getD, hi]
  have h1 := h.acts i hi
  have h2 := hd i hi
  rw [e] at h1 h2
  exact isB_act h1 h2 x hxm
theorem head_good {c : CfgA} (h : CfgP c) : Good (textR 400) (confB c) (headB c) := good_text 400 (confB c) (by have := confB_len c h.hs.2.2; omega) (by have := confB_len c h.hs.2.2; omega)
theorem all_ok {c : CfgA} {l : List ActR} (h : ScriptP c l) : l.all okAct = true := by
  rw [List.all_eq_true]
  intro a ha
  obtain ⟨i, hi, rfl⟩ := List.mem_iff_getElem.1 ha
  have h1 := h.acts i hi
  rw [show l.getD i default = l[i] from by simp [List.getD, hi]] at h1
  exact okAct_yes h1
theorem take_ok {l : List ActR} (h : l.all okAct = true) (k : Nat) : (l.take k).all okAct = true := by
  rw [List.all_eq_true] at h ⊢
  exact fun a ha => h a (List.mem_of_mem_take ha)
theorem actsB_split (l : List ActR) (k : Nat) : actsB l = actsB (l.take k) ++ actsB (l.drop k) := by
  unfold actsB; rw [← List.flatten_append, ← List.map_append, List.take_append_drop]
/-- whole, with something behind it -/
theorem read_whole {c : CfgA} {l : List ActR} (h : ScriptP c l) (post : List Int) :
    textR 400 (scriptB c l ++ post) 0 = .ok (confB c, (headB c).length) ∧ numR (scriptB c l ++ post) (headB c).length = .ok (l.length, (headB c).length + (encN l.length).length) ∧
    ∀ k, k ≤ l.length → actsR k (scriptB c l ++ post) ((headB c).length + (encN l.length).length) = .ok (l.take k, (headB c).length + (encN l.length).length + (actsB (l.take k)).length) := by
  refine ⟨?_, ?_, fun k hk => ?_⟩
  · have := (head_good h.conf).1 [] (restB l ++ post)
    rw [List.nil_append, List.length_nil, Nat.zero_add, ← List.append_assoc] at this
    exact this
  · have := (good_num l.length (by have := h.few; omega)).1 (headB c) (actsB l ++ post)
    rw [← List.append_assoc, ← List.append_assoc] at this
    simpa [scriptB, restB, List.append_assoc] using this
  · have := (good_acts k (l.take k) (by rw [List.length_take]; omega) (take_ok (all_ok h) k)).1 (headB c ++ encN l.length) (actsB (l.drop k) ++ post)
    rw [List.length_append] at this
    have e : headB c ++ encN l.length ++ (actsB (l.take k) ++ (actsB (l.drop k) ++ post)) = scriptB c l ++ post := by
      unfold scriptB restB
      rw [actsB_split l k]
      simp only [List.append_assoc]
    rw [e] at this
    exact this
theorem script_len (c : CfgA) (l : List ActR) : (scriptB c l).length = (headB c).length + (encN l.length).length + (actsB l).length := by
  unfold scriptB restB; rw [List.length_append, List.length_append, Nat.add_assoc]
/-- cut off -/
inductive CutR (c : CfgA) (l : List ActR) (b : List Int) : Prop
  | text (h : textR 400 b 0 = .error 1)
  | num (h : textR 400 b 0 = .ok (confB c, (headB c).length)) (h2 : numR b (headB c).length = .error 1)
  | acts (h : textR 400 b 0 = .ok (confB c, (headB c).length)) (j : Nat) (h2 : numR b (headB c).length = .ok (l.length, j)) (h3 : actsR l.length b j = .error 1) (h4 : ∀ k m q, k ≤ l.length → actsR k b j = .ok (m, q) → m = l.take k)
theorem read_cut {c : CfgA} {l : List ActR} (h : ScriptP c l) {r : Nat} (hr : r < (scriptB c l).length) : CutR c l ((scriptB c l).take r) := by
  have hsl := script_len c l
  by_cases h1 : r < (headB c).length
  · refine .text ?_
    have := (head_good h.conf).2 [] r h1
    rw [List.nil_append, List.length_nil] at this
    unfold scriptB
    rw [List.take_append_of_le_length (by omega)]
    exact this
  have ht : ∀ t : List Int, textR 400 (headB c ++ t) 0 = .ok (confB c, (headB c).length) := fun t => by
    have := (head_good h.conf).1 [] t
    rw [List.nil_append, List.length_nil, Nat.zero_add] at this
    exact this
  have e1 : (scriptB c l).take r = headB c ++ (restB l).take (r - (headB c).length) := by
    unfold scriptB
    rw [List.take_append, List.take_of_length_le (by omega)]
  by_cases h2 : r - (headB c).length < (encN l.length).length
  · refine .num (by rw [e1]; exact ht _) ?_
    rw [e1]
    unfold restB
    rw [List.take_append_of_le_length (by omega)]
    exact (good_num l.length (by have := h.few; omega)).2 (headB c) _ h2
  have e2 : (scriptB c l).take r = (headB c ++ encN l.length) ++ (actsB l).take (r - (headB c).length - (encN l.length).length) := by
    rw [e1]
    unfold restB
    rw [List.take_append, List.take_of_length_le (l := encN l.length) (by omega), List.append_assoc]
  have hk2 : r - (headB c).length - (encN l.length).length < (actsB l).length := by omega
  refine .acts (by rw [e1]; exact ht _) ((headB c).length + (encN l.length).length) ?_ ?_ ?_
  · rw [e2, List.append_assoc]
    exact (good_num l.length (by have := h.few; omega)).1 (headB c) _
  · rw [e2]
    have := (good_acts l.length l rfl (all_ok h)).2 (headB c ++ encN l.length) _ hk2
    rw [List.length_append] at this
    exact this
  · intro k m q hk hq
    have hg := good_acts k (l.take k) (by rw [List.length_take]; omega) (take_ok (all_ok h) k)
    rw [e2, actsB_split l k] at hq
    by_cases hc : r - (headB c).length - (encN l.length).length < (actsB (l.take k)).length
    · rw [List.take_append_of_le_length (by omega)] at hq
      have := hg.2 (headB c ++ encN l.length) _ hc
      rw [List.length_append] at this
      rw [this] at hq
      cases hq
    · rw [List.take_append, List.take_of_length_le (by omega)] at hq
      have := hg.1 (headB c ++ encN l.length) ((actsB (l.drop k)).take (r - (headB c).length - (encN l.length).length - (actsB (l.take k)).length))
      rw [List.length_append] at this
      rw [this] at hq
      injection hq with hq
      injection hq with hq _
      exact hq.symm
theorem take_acts {c : CfgA} {l : List ActR} (h : ScriptP c l) (k : Nat) : ∀ a ∈ l.take k, ActP a := fun a ha => okAct_iff.1 (List.all_eq_true.1 (take_ok (all_ok h) k) a ha)
end Go.Proofs.Ytaofjnpmnaohcaa
