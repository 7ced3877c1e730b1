/- ArrayNil holds for every message: an array that is not there tells nothing, and without a disk there is none. No condition. -/
import Derived.Test.YtcphifphidcbaaaGreatRow
import Derived.SizedLaws
import Derived.Test.YtcphifphidcbaaaGreatArgM
import Derived.Test.YtcphifphidcbaaaGreatRetC
import Derived.Test.YtcphifphidcbaaaGreatArn
namespace Go.Proofs.YtcphifphidcbaaaGreat.arrayNil
open Go.ChangeShapes Go.WideShapes Go.ChangeAt Go.RowKit Go.Joins
set_option linter.unusedVariables false
set_option maxRecDepth 100000

theorem lifted (os : Os) (started : os.Started) (H : Type) (enc : TypeId × Value → H) :
    ReturnsInHanded {} Tryz.checked os 4 .any (Rows.arrayNilSpec.pre6 enc Tryz.prog Tryz.f4 Rows.arrayNilRow.domain false) (Rows.arrayNilSpec.post enc Tryz.prog Tryz.f4 false true false false) := by
  refine returnsInHanded_of_change_sized (C := Tryz.checked) own started (by kernel_rfl) Tryz.func4
    (ChangeSpec.witness6 (enc := enc) (C := Tryz.checked) false ⟨#[], #[.agg #[.int .i64 0, .int .i64 0, .int .i64 0, .int .i64 0, .int .i64 0, .int .i64 0, .int .i64 0, .int .i64 0, .int .i64 0, .bool false, .slice none 0 0]], []⟩ 8 (by kernel_rfl) (by kernel_rfl) (by kernel_rfl) (by kernel_rfl)) ?_
  intro W base args ds gs before hval0 hW hcnd hsz0 _
  have hval : ∀ (j : Nat) t v, Tryz.f4.params[j]? = some t → args[j]? = some v → Value.okWide Tryz.prog W .any base t v := hval0
  have hW' := hW
  obtain ⟨p, q, hA0, hV, rfl, hfz, hnd⟩ := hW
  have hA : DataW.TrodAll enc Tryz.prog W 0 (fun _ => true) true Tryz.f4.params.toList args.toList ds p := hA0
  rw [Tryz.params4] at hA hval
  have hsz : (DataW.weightsEach Tryz.prog (Tryz.f4.params.toList ++ Rows.arrayNilSpec.plain.varTypes Tryz.prog) (ds ++ gs)).all (· ≤ reachBytes) = true := hsz0
  rw [Tryz.params4] at hsz
  have hAll := hA
  obtain ⟨v0, vs0, d0, ds0, p0, q0, hargs, rfl, rfl, h0, r0⟩ := trodAll_cons hA
  obtain ⟨rfl, rfl, rfl⟩ := trodAll_nil r0
  obtain rfl : args = #[v0] := by cases args; simp_all
  obtain ⟨rfl, rfl⟩ := trodVars_none hV
  obtain ⟨m, A, c, l, rfl, _⟩ := msg_val (hval 0 25 v0 rfl rfl) h0 (small_each hsz (j := 0) rfl rfl)
  have key : Calls Tryz.prog 4 #[.agg (msgC m (.slice A l.length c))] W (Ret (.bool true) Non W) := by
    exact (arrayNil_walk m A l.length c W).mono fun e w' h => h
  refine key.mono fun e W' ⟨he, ho⟩ => ?_
  subst he
  have bel : Below W.heap.size W W' := ho.below (fun _ h => h.elim) (Nat.le_refl _)
  exact ⟨_, rfl, _, _, _, [], _, [], hW', trodAll_mk1 (shut_bool Tryz.underlying4 _), trodAll_below laidOut bel _ _ _ _ (by decide +kernel) hAll, rfl, bel.frame _, fun h => by cases h⟩

theorem over : Rows.arrayNilRow.holds Tryz.pinned (OpenSpec.ofChange Rows.arrayNilSpec) :=
  OpenClaim.holds_of_wide 4 Tryz.f4 rfl rfl rfl rfl rfl rfl rfl ⟨rfl, rfl, rfl, rfl, rfl⟩ rfl rfl rfl rfl rfl (by kernel_rfl) Tryz.func4 (by kernel_rfl)
    (of_decide_eq_true (by kernel_rfl)) (by unfold Func.isWrapper; first | (rw [if_pos (by decide +kernel)]; kernel_rfl) | (rw [if_neg (by decide +kernel)]; exact ⟨rfl, rfl⟩))
    (fun os started H enc _ => lifted os started H enc)

theorem proved : Rows.ArrayNilSaid := over
#print axioms proved
end Go.Proofs.YtcphifphidcbaaaGreat.arrayNil
