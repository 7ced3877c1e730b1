/- Two operations that may come up in either order, at the head of a region. No program. -/
import Derived.Test.YtcphifphidcbaaaGreatTail
namespace Go.Proofs.YtcphifphidcbaaaGreat
set_option linter.unusedVariables false
section
variable {P : Program} {ops : Array Oper} {Q : Exit → Act → World → Prop} {S : World → Prop}
/-- numbers i and j are those that may come up -/
theorem wpHd_two {n i j : Nat} {oi oj : Oper} {l : List Oper} {f : Nat} {listed : Array Bool} {a : Act} {w : World} (hi : ops[i]? = some oi) (hj : ops[j]? = some oj)
    (hok : (decide (Region.ready .any ops listed = [i, j]) && decide (i < n) && decide (j < n)) = true)
    (h1 : ∀ K : Act → World → Prop, Shut (∀ a w, S w → (S w → wpHd P .any ops Q S n (Lq P ops Q n l) f (listed.setIfInBounds i true) a w) → K a w) →
      if Region.wanted oi (yielded ops a.tmps) = true then Oper.wp P oi a w K Q else K (a.put oi.dst undef) w)
    (h2 : ∀ K : Act → World → Prop, Shut (∀ a w, S w → (S w → wpHd P .any ops Q S n (Lq P ops Q n l) f (listed.setIfInBounds j true) a w) → K a w) →
      if Region.wanted oj (yielded ops a.tmps) = true then Oper.wp P oj a w K Q else K (a.put oj.dst undef) w) : wpHd P .any ops Q S n (Lq P ops Q n l) (f + 1) listed a w := by
  simp only [Bool.and_eq_true, decide_eq_true_eq] at hok
  obtain ⟨⟨h3, h4⟩, h5⟩ := hok
  refine ⟨by rw [h3]; simp, fun k hk => ?_⟩
  rw [h3] at hk
  simp only [List.mem_cons, List.not_mem_nil, or_false] at hk
  rcases hk with rfl | rfl
  · exact ⟨h4, wpOp_step hi fun K hK => h1 K fun a w hS hW => hK a w ⟨hS, hW hS⟩⟩
  · exact ⟨h5, wpOp_step hj fun K hK => h2 K fun a w hS hW => hK a w ⟨hS, hW hS⟩⟩
end
end Go.Proofs.YtcphifphidcbaaaGreat
