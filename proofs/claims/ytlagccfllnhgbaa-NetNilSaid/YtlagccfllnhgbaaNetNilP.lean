/- NetNil holds for every act: a net that is not there tells so. No condition. -/
import Derived.Test.YtlagccfllnhgbaaRow
import Derived.SizedLaws
import Derived.Test.YtlagccfllnhgbaaDeep
import Derived.Test.YtlagccfllnhgbaaNetNil
namespace Go.Proofs.Ytlagccfllnhgbaa.netNil
open Go.ChangeShapes Go.WideShapes Go.ChangeAt Go.RowKit Go.Joins
set_option linter.unusedVariables false

theorem lifted (os : Os) (started : os.Started) (H : Type) (enc : TypeId × Value → H) :
    ReturnsInHanded {} Try.checked os 7 .any (Rows.netNilSpec.pre6 enc Try.prog Try.f7 Rows.netNilRow.domain false) (Rows.netNilSpec.post enc Try.prog Try.f7 false true false false) := by
  refine returnsInHanded_of_change_sized (C := Try.checked) own started (by kernel_rfl) Try.func7
    (ChangeSpec.witness6 (enc := enc) (C := Try.checked) false ⟨#[], #[.agg #[.int .i64 0, .int .i64 0, .int .i64 0, .int .i64 0, .slice none 0 0]], []⟩ 8 (by kernel_rfl) (by kernel_rfl) (by kernel_rfl) (by kernel_rfl)) ?_
  intro W base args ds gs before hval0 hW hcnd hsz0 _
  have hval : ∀ (j : Nat) t v, Try.f7.params[j]? = some t → args[j]? = some v → Value.okWide Try.prog W .any base t v := hval0
  have hW' := hW
  obtain ⟨p, q, hA0, hV, rfl, hfz, hnd⟩ := hW
  have hA : DataW.TrodAll enc Try.prog W 0 (fun _ => true) true Try.f7.params.toList args.toList ds p := hA0
  rw [Try.params7] at hA hval
  have hsz : (DataW.weightsEach Try.prog (Try.f7.params.toList ++ Rows.netNilSpec.plain.varTypes Try.prog) (ds ++ gs)).all (· ≤ reachBytes) = true := hsz0
  rw [Try.params7] at hsz
  have hAll := hA
  obtain ⟨v0, vs0, d0, ds0, p0, q0, hargs, rfl, rfl, h0, r0⟩ := trodAll_cons hA
  obtain ⟨rfl, rfl, rfl⟩ := trodAll_nil r0
  obtain rfl : args = #[v0] := by cases args; simp_all
  obtain ⟨rfl, rfl⟩ := trodVars_none hV
  obtain ⟨kind, way, i, k, vL, m, y, rfl, htr, hsm⟩ := act_val (tL := 22) Try.underlying39 (by kernel_rfl) (by kernel_rfl) Try.underlying3 (by simp) (hval 0 39 v0 rfl rfl) h0 (small_each hsz (j := 0) rfl rfl)
  obtain ⟨A, c, n, _, e1, _⟩ := slice_trod (C := 1) Try.underlying22 (by kernel_rfl) (by decide) htr hsm
  simp only [List.cons.injEq, and_true] at e1
  subst e1
  have key : Calls Try.prog 7 #[.agg #[.int .i64 kind, .int .i64 way, .int .i64 i, .int .i64 k, .slice A c n]] W (Ret (.bool true) Non W) := by
    exact netNil_walk kind way i k A c n W
  refine key.mono fun e W' ⟨he, ho⟩ => ?_
  subst he
  have bel : Below W.heap.size W W' := ho.below (fun _ h => h.elim) (Nat.le_refl _)
  exact ⟨_, rfl, _, _, _, [], _, [], hW', trodAll_mk1 (shut_bool Try.underlying4 _), trodAll_below laidOut bel _ _ _ _ (by decide +kernel) hAll, rfl, bel.frame _, fun h => by cases h⟩

theorem over : Rows.netNilRow.holds Try.pinned (OpenSpec.ofChange Rows.netNilSpec) :=
  OpenClaim.holds_of_wide 7 Try.f7 rfl rfl rfl rfl rfl rfl rfl ⟨rfl, rfl, rfl, rfl, rfl⟩ rfl rfl rfl rfl rfl (by kernel_rfl) Try.func7 (by kernel_rfl)
    (of_decide_eq_true (by kernel_rfl)) (by unfold Func.isWrapper; first | (rw [if_pos (by decide +kernel)]; kernel_rfl) | (rw [if_neg (by decide +kernel)]; exact ⟨rfl, rfl⟩))
    (fun os started H enc _ => lifted os started H enc)

theorem proved : Rows.NetNilSaid := over
#print axioms proved
end Go.Proofs.Ytlagccfllnhgbaa.netNil
