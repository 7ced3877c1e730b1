/- NetActs holds for every number of ways and every list of acts: what is done is what the document says. No condition. -/
import Derived.Test.YtlagccfllnhgbaaRow
import Derived.SizedLaws
import Derived.Test.YtlagccfllnhgbaaNetActE
namespace Go.Proofs.Ytlagccfllnhgbaa.netActs
open Go.ChangeShapes Go.WideShapes Go.ChangeAt Go.RowKit Go.Joins
set_option linter.unusedVariables false

theorem lifted (os : Os) (started : os.Started) (H : Type) (enc : TypeId × Value → H) :
    ReturnsInHanded {} Try.checked os 6 .any (Rows.netActsSpec.pre6 enc Try.prog Try.f6 Rows.netActsRow.domain false) (Rows.netActsSpec.post enc Try.prog Try.f6 false true false false) := by
  refine returnsInHanded_of_change_sized (C := Try.checked) own started (by kernel_rfl) Try.func6
    (ChangeSpec.witness6 (enc := enc) (C := Try.checked) false ⟨#[], #[.int .i64 0, .slice none 0 0], []⟩ 8 (by kernel_rfl) (by kernel_rfl) (by kernel_rfl) (by kernel_rfl)) ?_
  intro W base args ds gs before hval0 hW hcnd hsz0 _
  have hval : ∀ (j : Nat) t v, Try.f6.params[j]? = some t → args[j]? = some v → Value.okWide Try.prog W .any base t v := hval0
  have hW' := hW
  obtain ⟨p, q, hA0, hV, rfl, hfz, hnd⟩ := hW
  have hA : DataW.TrodAll enc Try.prog W 0 (fun _ => true) true Try.f6.params.toList args.toList ds p := hA0
  rw [Try.params6] at hA hval
  have hsz : (DataW.weightsEach Try.prog (Try.f6.params.toList ++ Rows.netActsSpec.plain.varTypes Try.prog) (ds ++ gs)).all (· ≤ reachBytes) = true := hsz0
  rw [Try.params6] at hsz
  have hAll := hA
  obtain ⟨v0, vs0, d0, ds0, p0, q0, hargs, rfl, rfl, h0, r0⟩ := trodAll_cons hA
  obtain ⟨v1, vs1, d1, ds1, p1, q1, rfl, rfl, rfl, h1, r1⟩ := trodAll_cons r0
  obtain ⟨rfl, rfl, rfl⟩ := trodAll_nil r1
  obtain rfl : args = #[v0, v1] := by cases args; simp_all
  obtain ⟨rfl, rfl⟩ := trodVars_none hV
  obtain ⟨ways, rfl, _, _, _⟩ := open_int Try.underlying3 (hval 0 3 v0 rfl rfl) h0
  obtain ⟨A, c, L, rfl, hlc, hcm, hacts⟩ := acts_val (tb := 5) (tF := 26) (tL := 22) Try.underlying37 (by kernel_rfl) Try.underlying39 (by kernel_rfl) Try.underlying3 (by simp) Try.underlying22 (by kernel_rfl) Try.underlying26 (by kernel_rfl) Try.underlying5 (by kernel_rfl) (hval 1 37 v1 rfl rfl) h1 (small_each hsz (j := 1) rfl rfl)

  have key : Calls Try.prog 6 #[.int .i64 ways, .slice A L.length c] W (Ret (.bool true) Non W) := by
    by_cases hx : longB L = true ∨ (longB L = false ∧ 10 < ways ∧ ways ≤ 32)
    · exact netActs_skip ways A c L W hacts hlc hcm hx
    · simp only [not_or, Bool.not_eq_true] at hx
      exact netActs_walk ways A c L W hacts hlc hcm hx.1 (by have := hx.2; rw [hx.1] at this; simp only [true_and] at this; omega)
  refine key.mono fun e W' ⟨he, ho⟩ => ?_
  subst he
  have bel : Below W.heap.size W W' := ho.below (fun _ h => h.elim) (Nat.le_refl _)
  exact ⟨_, rfl, _, _, _, [], _, [], hW', trodAll_mk1 (shut_bool Try.underlying4 _), trodAll_below laidOut bel _ _ _ _ (by decide +kernel) hAll, rfl, bel.frame _, fun h => by cases h⟩

theorem over : Rows.netActsRow.holds Try.pinned (OpenSpec.ofChange Rows.netActsSpec) :=
  OpenClaim.holds_of_wide 6 Try.f6 rfl rfl rfl rfl rfl rfl rfl ⟨rfl, rfl, rfl, rfl, rfl⟩ rfl rfl rfl rfl rfl (by kernel_rfl) Try.func6 (by kernel_rfl)
    (of_decide_eq_true (by kernel_rfl)) (by unfold Func.isWrapper; first | (rw [if_pos (by decide +kernel)]; kernel_rfl) | (rw [if_neg (by decide +kernel)]; exact ⟨rfl, rfl⟩))
    (fun os started H enc _ => lifted os started H enc)

theorem proved : Rows.NetActsSaid := over
#print axioms proved
end Go.Proofs.Ytlagccfllnhgbaa.netActs
