/- DirForget holds for every list of acts and every client: who is forgotten shares nothing, and all others what they did. No condition. -/
import Derived.Test.YtlagccfllnhgbaaRow
import Derived.Test.YtlagccfllnhgbaaDirForget
namespace Go.Proofs.Ytlagccfllnhgbaa.dirForget
open Go.ChangeShapes Go.WideShapes Go.ChangeAt Go.RowKit Go.Joins
set_option linter.unusedVariables false

theorem lifted (os : Os) (started : os.Started) (H : Type) (enc : TypeId × Value → H) :
    ReturnsInHanded {} Try.checked os 8 .any (Rows.dirForgetSpec.pre6 enc Try.prog Try.f8 Rows.dirForgetRow.domain false) (Rows.dirForgetSpec.post enc Try.prog Try.f8 false true false false) := by
  refine returnsInHanded_of_change (C := Try.checked) own started (by kernel_rfl) Try.func8
    (ChangeSpec.witness6 (enc := enc) (C := Try.checked) false ⟨#[], #[.slice none 0 0, .int .u8 0], []⟩ 8 (by kernel_rfl) (by kernel_rfl) (by kernel_rfl) (by kernel_rfl)) ?_
  intro W base args ds gs before hval0 hW hcnd _
  have hval : ∀ (j : Nat) t v, Try.f8.params[j]? = some t → args[j]? = some v → Value.okWide Try.prog W .any base t v := hval0
  have hW' := hW
  obtain ⟨p, q, hA0, hV, rfl, hfz, hnd⟩ := hW
  have hA : DataW.TrodAll enc Try.prog W 0 (fun _ => true) true Try.f8.params.toList args.toList ds p := hA0
  rw [Try.params8] at hA hval
  have hAll := hA
  obtain ⟨v0, vs0, d0, ds0, p0, q0, hargs, rfl, rfl, h0, r0⟩ := trodAll_cons hA
  obtain ⟨v1, vs1, d1, ds1, p1, q1, rfl, rfl, rfl, h1, r1⟩ := trodAll_cons r0
  obtain ⟨rfl, rfl, rfl⟩ := trodAll_nil r1
  obtain rfl : args = #[v0, v1] := by cases args; simp_all
  obtain ⟨rfl, rfl⟩ := trodVars_none hV
  obtain ⟨A, c, L, hv, hlc, hcm, hL⟩ := trips_of Try.underlying55 (by kernel_rfl) Try.underlying61 (by kernel_rfl) Try.underlying3 (by simp) (hval 0 55 v0 rfl rfl) h0
  subst hv
  obtain ⟨cl, rfl, _, _, wcl⟩ := open_int Try.underlying5 (hval 1 5 v1 rfl rfl) h1
  have hcl : 0 ≤ cl ∧ cl ≤ 255 := by simpa [Lit.wf, IntKind.min, IntKind.max, IntKind.signed, IntKind.bits] using wcl
  have key : Calls Try.prog 8 #[.slice A L.length c, .int .u8 cl] W (Ret (.bool true) Non W) := by
    by_cases h100 : L.length ≤ 100
    · exact dirForget_walk A c L cl W h100 hL hcl.1 hcl.2
    · exact dirForget_long A L.length c cl W (by omega) (by unfold maxLen at *; omega)
  refine key.mono fun e W' ⟨he, ho⟩ => ?_
  subst he
  have bel : Below W.heap.size W W' := ho.below (fun _ h => h.elim) (Nat.le_refl _)
  exact ⟨_, rfl, _, _, _, [], _, [], hW', trodAll_mk1 (shut_bool Try.underlying4 _), trodAll_below laidOut bel _ _ _ _ (by decide +kernel) hAll, rfl, bel.frame _, fun h => by cases h⟩

theorem over : Rows.dirForgetRow.holds Try.pinned (OpenSpec.ofChange Rows.dirForgetSpec) :=
  OpenClaim.holds_of_wide 8 Try.f8 rfl rfl rfl rfl rfl rfl rfl ⟨rfl, rfl, rfl, rfl, rfl⟩ rfl rfl rfl rfl rfl (by kernel_rfl) Try.func8 (by kernel_rfl)
    (of_decide_eq_true (by kernel_rfl)) (by unfold Func.isWrapper; first | (rw [if_pos (by decide +kernel)]; kernel_rfl) | (rw [if_neg (by decide +kernel)]; exact ⟨rfl, rfl⟩))
    (fun os started H enc _ => lifted os started H enc)

theorem proved : Rows.DirForgetSaid := over
#print axioms proved
end Go.Proofs.Ytlagccfllnhgbaa.dirForget
