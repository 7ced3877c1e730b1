/- DirPairs holds for every pair of sizes and every list of acts: as many pairs are told by blocks as by clients, and in all. No condition. -/
import Derived.Test.YtlagccfllnhgbaaRow
import Derived.Test.YtlagccfllnhgbaaDirPairs
namespace Go.Proofs.Ytlagccfllnhgbaa.dirPairs
open Go.ChangeShapes Go.WideShapes Go.ChangeAt Go.RowKit Go.Joins
set_option linter.unusedVariables false

theorem lifted (os : Os) (started : os.Started) (H : Type) (enc : TypeId × Value → H) :
    ReturnsInHanded {} Try.checked os 11 .any (Rows.dirPairsSpec.pre6 enc Try.prog Try.f11 Rows.dirPairsRow.domain false) (Rows.dirPairsSpec.post enc Try.prog Try.f11 false true false false) := by
  refine returnsInHanded_of_change (C := Try.checked) own started (by kernel_rfl) Try.func11
    (ChangeSpec.witness6 (enc := enc) (C := Try.checked) false ⟨#[], #[.agg #[.int .i64 0, .int .i64 0], .slice none 0 0], []⟩ 8 (by kernel_rfl) (by kernel_rfl) (by kernel_rfl) (by kernel_rfl)) ?_
  intro W base args ds gs before hval0 hW hcnd _
  have hval : ∀ (j : Nat) t v, Try.f11.params[j]? = some t → args[j]? = some v → Value.okWide Try.prog W .any base t v := hval0
  have hW' := hW
  obtain ⟨p, q, hA0, hV, rfl, hfz, hnd⟩ := hW
  have hA : DataW.TrodAll enc Try.prog W 0 (fun _ => true) true Try.f11.params.toList args.toList ds p := hA0
  rw [Try.params11] at hA hval
  have hAll := hA
  obtain ⟨v0, vs0, d0, ds0, p0, q0, hargs, rfl, rfl, h0, r0⟩ := trodAll_cons hA
  obtain ⟨v1, vs1, d1, ds1, p1, q1, rfl, rfl, rfl, h1, r1⟩ := trodAll_cons r0
  obtain ⟨rfl, rfl, rfl⟩ := trodAll_nil r1
  obtain rfl : args = #[v0, v1] := by cases args; simp_all
  obtain ⟨rfl, rfl⟩ := trodVars_none hV
  obtain ⟨d0', d1', hv0⟩ := pair_of Try.underlying67 (by kernel_rfl) Try.underlying3 (by kernel_rfl) (hval 0 67 v0 rfl rfl) h0
  subst hv0
  obtain ⟨A, c, L, hv, hlc, hcm, hL⟩ := trips_of Try.underlying55 (by kernel_rfl) Try.underlying61 (by kernel_rfl) Try.underlying3 (by simp) (hval 1 55 v1 rfl rfl) h1
  subst hv
  have key : Calls Try.prog 11 #[.agg #[.int .i64 d0', .int .i64 d1'], .slice A L.length c] W (Ret (.bool true) Non W) := by
    by_cases h100 : L.length ≤ 100
    · exact dirPairs_walk A c L d0' d1' W h100 hL
    · exact dirPairs_long A L.length c d0' d1' W (by omega) (by unfold maxLen at *; omega)
  refine key.mono fun e W' ⟨he, ho⟩ => ?_
  subst he
  have bel : Below W.heap.size W W' := ho.below (fun _ h => h.elim) (Nat.le_refl _)
  exact ⟨_, rfl, _, _, _, [], _, [], hW', trodAll_mk1 (shut_bool Try.underlying4 _), trodAll_below laidOut bel _ _ _ _ (by decide +kernel) hAll, rfl, bel.frame _, fun h => by cases h⟩

theorem over : Rows.dirPairsRow.holds Try.pinned (OpenSpec.ofChange Rows.dirPairsSpec) :=
  OpenClaim.holds_of_wide 11 Try.f11 rfl rfl rfl rfl rfl rfl rfl ⟨rfl, rfl, rfl, rfl, rfl⟩ rfl rfl rfl rfl rfl (by kernel_rfl) Try.func11 (by kernel_rfl)
    (of_decide_eq_true (by kernel_rfl)) (by unfold Func.isWrapper; first | (rw [if_pos (by decide +kernel)]; kernel_rfl) | (rw [if_neg (by decide +kernel)]; exact ⟨rfl, rfl⟩))
    (fun os started H enc _ => lifted os started H enc)

theorem proved : Rows.DirPairsSaid := over
#print axioms proved
end Go.Proofs.Ytlagccfllnhgbaa.dirPairs
