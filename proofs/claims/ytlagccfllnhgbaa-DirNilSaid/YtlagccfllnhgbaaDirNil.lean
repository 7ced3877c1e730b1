/- DirNil: a directory that is not there tells so: the walk. -/
import Derived.Test.YtlagccfllnhgbaaDirC
namespace Go.Proofs.Ytlagccfllnhgbaa
open Go.RowKit
set_option linter.unusedVariables false
section
set_option maxHeartbeats 1000000
theorem forget_nil (x : Int) (w : World) :
    Calls Try.prog 30 #[.pointer none, .int .i64 x] w fun e w' => e = .returned (.int .i64 0) ∧ w = w' := by
  go_enter Try.func30, Try.ntmps30
  go_wp2_with (go_at_call 29; refine (of_nil x w).mono ?_; rintro e w' ⟨rfl, rfl⟩)
  refine wp_loop_rounds 1 ?_
  rw [rounds_succ]
  go_wp2
  go_ret
  exact ⟨rfl, rfl⟩
theorem add_nil' (p : Option Addr) (hp : p = none) (x y : Int) (w : World) :
    Calls Try.prog 39 #[.pointer p, .int .i64 x, .int .i64 y] w fun e w' => e = .returned (.int .i64 7) ∧ w = w' := by subst hp; exact add_nil x y w
theorem dirNil_walk (k c bl : Int) (w : World) :
    Calls Try.prog 10 #[.agg #[.int .i64 k, .int .i64 c, .int .i64 bl]] w (Ret (.bool true) Non w) := by
  have hA : Box (w.alloc (.cells #[.int .i64 k, .int .i64 c, .int .i64 bl] 61)) w.heap.size 61 #[.int .i64 k, .int .i64 c, .int .i64 bl] := Box.fresh _ _ _
  have H0 := Lib.hid (dwakes_any (w.alloc (.cells #[.int .i64 k, .int .i64 c, .int .i64 bl] 61)))
  go_enter Try.func10, Try.ntmps10
  go_wp2_with fail
  refine H0.out.mono ?_
  rintro e w1 ⟨rfl, ho⟩
  have hA1 := ho.box hA id
  have c1 := hA1.cellAt (i := 1) rfl
  have c2 := hA1.cellAt (i := 2) rfl
  go_wp2_with fail
  go_quiet ((first
    | (go_at_call 39; exact quiet_l (add_nil _ _ _))
    | (go_at_call 40; exact quiet_l (remove_no none _ _ _ (has_nil _ _ _)))
    | (go_at_call 35; exact quiet_l (has_nil _ _ _))
    | (go_at_call 33; exact quiet_l (sharers_no none _ _ (there_nil _ _ _)))
    | (go_at_call 29; exact quiet_l (of_nil _ _))
    | (go_at_call 30; exact quiet_l (forget_nil _ _))
    | (go_at_call 37; exact quiet_l (dirlen_nil _))))
  go_wp2
  go_ret
  exact ⟨rfl, (((Only.refl _ _).alloc _).trans ho).drewN _⟩
end
end Go.Proofs.Ytlagccfllnhgbaa
