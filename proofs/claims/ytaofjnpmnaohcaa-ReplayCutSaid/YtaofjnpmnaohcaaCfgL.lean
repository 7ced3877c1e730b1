/- A configuration's bytes. No walk. -/
import Derived.Test.YtaofjnpmnaohcaaCfgS
namespace Go.Proofs.Ytaofjnpmnaohcaa
open Go.RowKit
set_option linter.unusedVariables false
def numsB (f : Nat → Int) (k : Nat) : List Int := (List.range k).flatMap fun i => encN (f i).toNat
theorem numsB_zero (f : Nat → Int) : numsB f 0 = [] := rfl
theorem numsB_succ (f : Nat → Int) (k : Nat) : numsB f (k + 1) = numsB f k ++ encN (f k).toNat := by simp [numsB, List.range_succ]
theorem numsB_len (f : Nat → Int) : ∀ k, (numsB f k).length ≤ 9 * k
  | 0 => by simp [numsB]
  | k + 1 => by
    rw [numsB_succ, List.length_append]
    have := numsB_len f k
    have := (encN_len (f k).toNat).2
    omega
def hn (h : HintA) (i : Nat) : Int := if i = 0 then h.fr else if i = 1 then h.size else h.often
def hintB (h : HintA) : List Int := numsB (hn h) 3 ++ truthB h.loop
theorem hintB_len (h : HintA) : (hintB h).length ≤ 28 := by
  have := numsB_len (hn h) 3
  unfold hintB
  rw [List.length_append]
  have : (truthB h.loop).length = 1 := by cases h.loop <;> rfl
  omega
def hsB (l : List HintA) (k : Nat) : List Int := (l.take k).flatMap hintB
theorem hsB_zero (l : List HintA) : hsB l 0 = [] := rfl
theorem hsB_succ (l : List HintA) {k : Nat} (hk : k < l.length) : hsB l (k + 1) = hsB l k ++ hintB (l.getD k default) := by
  unfold hsB
  rw [List.take_succ_eq_append_getElem hk, List.flatMap_append]
  simp [List.getD, hk]
theorem hsB_len (l : List HintA) : ∀ k, (hsB l k).length ≤ 28 * k
  | 0 => by simp [hsB]
  | k + 1 => by
    by_cases hk : k < l.length
    · rw [hsB_succ l hk, List.length_append]
      have := hsB_len l k
      have := hintB_len (l.getD k default)
      omega
    · have : hsB l (k + 1) = hsB l k := by unfold hsB; rw [List.take_of_length_le (by omega), List.take_of_length_le (by omega)]
      rw [this]
      have := hsB_len l k
      omega
def confH (c : CfgA) : List Int := numsB c.f 16 ++ encN c.h.length
def confB (c : CfgA) : List Int := confH c ++ hsB c.h c.h.length
theorem confH_len (c : CfgA) : (confH c).length ≤ 153 := by
  have := numsB_len c.f 16
  have := (encN_len c.h.length).2
  unfold confH
  rw [List.length_append]; omega
theorem confB_len (c : CfgA) (h : c.h.length ≤ 8) : (confB c).length ≤ 377 := by
  have := confH_len c
  have := hsB_len c.h c.h.length
  unfold confB
  rw [List.length_append]; omega
theorem okH_nums {b : Int} {h : HintA} (hb : b ≤ 32) (k : okH b h) : ∀ i, i < 3 → 0 ≤ hn h i ∧ hn h i ≤ 2147483647 := by
  intro i hi
  unfold okH at k
  unfold hn
  split
  · omega
  · split <;> omega
end Go.Proofs.Ytaofjnpmnaohcaa
