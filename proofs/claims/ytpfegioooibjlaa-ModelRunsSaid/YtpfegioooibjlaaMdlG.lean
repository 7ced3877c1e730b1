/- The plain law: the model's list is the last uses, each once. -/
import Derived.Test.YtpfegioooibjlaaMdlF
namespace Go.Proofs.Ytpfegioooibjlaa
open Go.RowKit
set_option linter.unusedVariables false
set_option linter.unusedSimpArgs false
def dd : List Int → List Int
  | [] => []
  | x :: xs => x :: (dd xs).erase x
theorem dd_nodup : ∀ r, (dd r).Nodup
  | [] => List.nodup_nil
  | x :: xs => List.nodup_cons.2 ⟨fun h => by
      rw [(dd_nodup xs).erase_eq_filter] at h
      simp at h, (dd_nodup xs).erase x⟩
theorem allGo_eq (most : Nat) : ∀ (r out : List Int), allGo most r out = out ++ ((dd r).filter fun x => decide (x ∉ out)).take (most - out.length)
  | [], out => by simp [allGo, dd]
  | x :: xs, out => by
    by_cases hl : out.length < most
    · rw [allGo, if_pos hl, dd]
      by_cases hx : x ∈ out
      · rw [if_pos hx, allGo_eq most xs out, List.filter_cons_of_neg (by simpa using hx), (dd_nodup xs).erase_eq_filter, List.filter_filter]
        congr 2
        apply List.filter_congr
        intro y hy
        by_cases hyo : y ∈ out
        · simp [hyo]
        · have : y ≠ x := fun e => hyo (by rw [e]; exact hx)
          simp [hyo, this]
      · rw [if_neg hx, allGo_eq most xs (out ++ [x]), List.filter_cons_of_pos (by simpa using hx), (dd_nodup xs).erase_eq_filter, List.filter_filter, List.append_assoc]
        congr 1
        rw [show most - out.length = (most - (out ++ [x]).length) + 1 from by rw [List.length_append, List.length_singleton]; omega, List.take_succ_cons]
        simp only [List.singleton_append, List.cons.injEq, true_and]
        congr 1
        apply List.filter_congr
        intro y hy
        by_cases hyo : y ∈ out <;> by_cases hyx : y = x <;> simp [hyo, hyx]
    · rw [allGo, if_neg hl, show most - out.length = 0 by omega]; simp
theorem refAll_eq (used : List Int) (most : Nat) : refAll used most = (dd used.reverse).take most := by
  rw [refAll, allGo_eq, List.nil_append, List.length_nil, Nat.sub_zero, List.filter_eq_self.2 (fun x _ => by simp)]
theorem erase_take (b : Int) : ∀ (D : List Int) (p : Nat), ((D.take (p + 1)).erase b).take p = (D.erase b).take p
  | [], p => by simp
  | x :: D, p => by
    rw [List.take_succ_cons]
    by_cases hx : x = b
    · subst hx
      rw [List.erase_cons_head, List.erase_cons_head, List.take_take, Nat.min_self]
    · rw [List.erase_cons_tail (by simpa using hx), List.erase_cons_tail (by simpa using hx)]
      cases p with
      | zero => simp
      | succ q => rw [List.take_succ_cons, List.take_succ_cons, erase_take b D q]
theorem refAll_snoc (used : List Int) (most : Nat) (b : Int) (hm : 1 ≤ most) : refAll (used ++ [b]) most = useL b most (refAll used most) := by
  obtain ⟨p, rfl⟩ : ∃ p, most = p + 1 := ⟨most - 1, by omega⟩
  rw [refAll_eq, refAll_eq, List.reverse_append, List.reverse_singleton, List.singleton_append, dd, useL, List.take_succ_cons, List.take_succ_cons, erase_take]
theorem refAll_nil (most : Nat) : refAll [] most = [] := rfl
theorem refAll_len (used : List Int) (most : Nat) : (refAll used most).length ≤ most := by rw [refAll_eq, List.length_take]; omega
theorem dd_len : ∀ r, (dd r).length ≤ r.length
  | [] => Nat.le_refl _
  | x :: xs => by
    rw [dd, List.length_cons, List.length_cons]
    have := dd_len xs
    have h2 : ((dd xs).erase x).length ≤ (dd xs).length := List.length_erase_le
    omega
theorem run_list (most : Nat) (hm : 1 ≤ most) (bs : List Int) : (runM most bs).1 = refAll bs most := by
  have gen : ∀ r : List Int, (runM most r.reverse).1 = refAll r.reverse most := by
    intro r
    induction r with
    | nil => rfl
    | cons x r ih => rw [List.reverse_cons, runM_snoc, refAll_snoc _ _ _ hm, stepM, ih]
  have := gen bs.reverse
  rwa [List.reverse_reverse] at this
/-- a greater list misses no more -/
theorem run_more (m m' : Nat) (hm : 1 ≤ m) (h : m ≤ m') (bs : List Int) : (runM m' bs).2 ≤ (runM m bs).2 := by
  have gen : ∀ r : List Int, (runM m' r.reverse).2 ≤ (runM m r.reverse).2 := by
    intro r
    induction r with
    | nil => exact Nat.le_refl _
    | cons x r ih =>
      rw [List.reverse_cons, runM_snoc, runM_snoc, stepM, stepM]
      dsimp only
      rw [run_list m hm, run_list m' (by omega), refAll_eq, refAll_eq]
      by_cases hx : x ∈ (dd r.reverse.reverse).take m
      · have hx' : x ∈ (dd r.reverse.reverse).take m' := by
          have : (dd r.reverse.reverse).take m = ((dd r.reverse.reverse).take m').take m := by rw [List.take_take, Nat.min_eq_left h]
          rw [this] at hx
          exact List.mem_of_mem_take hx
        rw [if_pos hx, if_pos hx']; exact ih
      · rw [if_neg hx]
        split <;> omega
  have := gen bs.reverse
  rwa [List.reverse_reverse] at this
theorem tiers_all (c0 c1 c2 : Nat) (l : List Int) (h : l.length ≤ c0 + c1 + c2) : tierL c0 c1 c2 0 l ++ tierL c0 c1 c2 1 l ++ tierL c0 c1 c2 2 l = l := by
  have e0 : tierL c0 c1 c2 0 l = l.take c0 := rfl
  have e1 : tierL c0 c1 c2 1 l = (l.drop (0 + c0)).take c1 := rfl
  have e2 : tierL c0 c1 c2 2 l = (l.drop (0 + c0 + c1)).take c2 := rfl
  rw [e0, e1, e2, Nat.zero_add]
  have h3 : (l.drop (c0 + c1)).take c2 = l.drop (c0 + c1) := List.take_of_length_le (by rw [List.length_drop]; omega)
  rw [h3, List.append_assoc, ← List.drop_drop, List.take_append_drop, List.take_append_drop]
theorem tier_len (c0 c1 c2 t : Nat) (l : List Int) : (tierL c0 c1 c2 t l).length = min (capN c0 c1 c2 t) (l.length - preN c0 c1 c2 t) := by
  rw [tierL, List.length_take, List.length_drop]
theorem tier_full (c0 c1 c2 t : Nat) (l : List Int) (h : 0 < (tierL c0 c1 c2 (t + 1) l).length) : (tierL c0 c1 c2 t l).length = capN c0 c1 c2 t := by
  rw [tier_len] at h ⊢
  rw [preN] at h
  omega
end Go.Proofs.Ytpfegioooibjlaa
