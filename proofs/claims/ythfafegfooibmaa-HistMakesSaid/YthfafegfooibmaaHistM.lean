/- Operations made one behind the other are linear. No program. -/
import Derived.Test.YthfafegfooibmaaHistW
namespace Go.Proofs.Ythfafegfooibmaa
set_option linter.unusedVariables false
/-- what a register has behind operations one behind the other -/
def valA : List DoneR → List Int → List Int
  | [], v => v
  | o :: U, v => valA U (if o.write = true then o.data else v)
theorem valA_snoc (o : DoneR) : ∀ (U : List DoneR) (v : List Int), valA (U ++ [o]) v = if o.write = true then o.data else valA U v
  | [], v => rfl
  | x :: U, v => by rw [List.cons_append, valA, valA_snoc o U]; rfl
theorem seqD_snoc {o : DoneR} : ∀ {U : List DoneR} {v : List Int}, SeqD U v → (o.write = true ∨ o.data = valA U v) → (mustD o = true → ∀ x ∈ U, ¬ o.to < x.fr) → (mustD o = true → ¬ o.to < o.fr) → SeqD (U ++ [o]) v
  | [], v, _, h1, _, h3 => ⟨h1, fun y hy hm => by rw [List.mem_singleton.1 hy] at hm ⊢; exact h3 hm, trivial⟩
  | x :: U, v, ⟨a, b, c⟩, h1, h2, h3 => ⟨a, fun y hy hm => by
      have hy : y ∈ (x :: U) ++ [o] := hy
      rcases List.mem_append.1 hy with h | h
      · exact b y h hm
      · rw [List.mem_singleton.1 h] at hm ⊢; exact h2 hm x (List.mem_cons_self ..), seqD_snoc c h1 (fun hm y hy => h2 hm y (List.mem_cons_of_mem _ hy)) h3⟩
structure MkInv (k : Nat) (LO : List DoneR) (f : Int → List Int) : Prop where
  len : LO.length = k
  cnt : ∀ o ∈ LO, countsD o = true
  fr : ∀ o ∈ LO, o.fr ≤ 10 * k
  seq : ∀ b : Int, SeqD (LO.filter fun o => decide (o.block = b)) [0]
  val : ∀ b : Int, valA (LO.filter fun o => decide (o.block = b)) [0] = f b
theorem MkInv.nil : MkInv 0 [] (fun _ => [0]) := ⟨rfl, fun o h => (by cases h), fun o h => (by cases h), fun _ => trivial, fun _ => rfl⟩
theorem MkInv.step {k : Nat} {LO : List DoneR} {f f' : Int → List Int} (h : MkInv k LO f) {o : DoneR} (hc : countsD o = true) (hf : o.fr ≤ 10 * (k + 1 : Nat)) (hm : mustD o = true → 10 * ((k + 1 : Nat) : Int) ≤ o.to) (hv : o.write = true ∨ o.data = f o.block)
    (hf' : ∀ b, f' b = if b = o.block then (if o.write = true then o.data else f b) else f b) : MkInv (k + 1) (LO ++ [o]) f' := by
  refine ⟨by simp [h.len], fun x hx => ?_, fun x hx => ?_, fun b => ?_, fun b => ?_⟩
  · rcases List.mem_append.1 hx with hx | hx
    · exact h.cnt x hx
    · rw [List.mem_singleton.1 hx]; exact hc
  · rcases List.mem_append.1 hx with hx | hx
    · have := h.fr x hx; omega
    · rw [List.mem_singleton.1 hx]; exact hf
  · rw [List.filter_append]
    by_cases hb : o.block = b
    · rw [List.filter_cons_of_pos (by simp [hb]), List.filter_nil]
      refine seqD_snoc (h.seq b) ?_ (fun hm' x hx => ?_) (fun hm' => ?_)
      · rw [h.val b, ← hb]; exact hv
      · have := h.fr x (List.mem_filter.1 hx).1
        have := hm hm'
        omega
      · have := hm hm'
        omega
    · rw [List.filter_cons_of_neg (by simp [hb]), List.filter_nil, List.append_nil]; exact h.seq b
  · rw [List.filter_append, hf' b]
    by_cases hb : o.block = b
    · rw [List.filter_cons_of_pos (by simp [hb]), List.filter_nil, valA_snoc, h.val b, if_pos hb.symm]
    · rw [List.filter_cons_of_neg (by simp [hb]), List.filter_nil, List.append_nil, h.val b, if_neg (fun e => hb e.symm)]
theorem MkInv.lin {k : Nat} {LO : List DoneR} {f : Int → List Int} (h : MkInv k LO f) : (linD LO 1).2 = 4 ∨ linD LO 1 = (true, 0) := by
  refine lin_seq fun b => ?_
  have : (LO.filter fun o => decide (o.block = b) && countsD o) = LO.filter fun o => decide (o.block = b) := List.filter_congr fun o ho => by rw [h.cnt o ho, Bool.and_true]
  rw [this]; exact h.seq b
end Go.Proofs.Ythfafegfooibmaa
