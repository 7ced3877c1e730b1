/- NetActs: the early ends. -/
import Derived.Test.YtlagccfllnhgbaaNetActs
namespace Go.Proofs.Ytlagccfllnhgbaa
open Go.RowKit
set_option linter.unusedVariables false
set_option linter.unusedSimpArgs false
section
set_option maxHeartbeats 4000000
theorem netActs_skip (ways : Int) (A : Option Addr) (cp : Nat) (L : List ActA) (w : World) (hacts : Acts w w.heap.size A L) (hcp : L.length ≤ cp) (hcm : cp ≤ maxLen) (h : longB L = true ∨ (longB L = false ∧ 10 < ways ∧ ways ≤ 32)) :
    Calls Try.prog 6 #[.int .i64 ways, .slice A L.length cp] w (Ret (.bool true) Non w) := by
  have HW := fun w => Lib.hid (nwakes w)
  have Hlong := fun w' (ho : Only Non w w') => Lib.hid (nlong_any w.heap.size A cp L w' (hacts.only ho fun _ h => h.elim) hcp hcm)
  generalize L.length = n at *
  unfold maxLen at hcm
  clear hacts
  rcases h with hb | ⟨hb, h1, h2⟩
  all_goals
    rw [hb] at Hlong
    clear hb
    go_enter Try.func6, Try.ntmps6
    go_wp2_with fail
    refine (HW _).out.mono ?_
    rintro e w1 ⟨rfl, ho⟩
    have HO1 := Lib.hid ho
    clear ho
    go_wp2_with fail
    refine (Hlong w1 HO1.out).out.mono ?_
    rintro e w2 ⟨rfl, e2⟩
    rw [← e2]
    clear e2 w2 Hlong
    go_wp2_with fail
    go_ret
    exact ⟨rfl, HO1.out⟩
end
end Go.Proofs.Ytlagccfllnhgbaa
