/- NetKeeps holds for every list of acts and every further act: it leaves the other ways as they were, and a frame that is doubled comes twice. No condition. -/
import Derived.Test.YtlagccfllnhgbaaRow
import Derived.SizedLaws
import Derived.Test.YtlagccfllnhgbaaNetKeeps
namespace Go.Proofs.Ytlagccfllnhgbaa.netKeeps
open Go.ChangeShapes Go.WideShapes Go.ChangeAt Go.RowKit Go.Joins
set_option linter.unusedVariables false

theorem lifted (os : Os) (started : os.Started) (H : Type) (enc : TypeId × Value → H) :
    ReturnsInHanded {} Try.checked os 5 .any (Rows.netKeepsSpec.pre6 enc Try.prog Try.f5 Rows.netKeepsRow.domain false) (Rows.netKeepsSpec.post enc Try.prog Try.f5 false true false false) := by
  refine returnsInHanded_of_change_sized (C := Try.checked) own started (by kernel_rfl) Try.func5
    (ChangeSpec.witness6 (enc := enc) (C := Try.checked) false ⟨#[], #[.slice none 0 0, .agg #[.int .i64 0, .int .i64 0, .int .i64 0, .int .i64 0, .slice none 0 0]], []⟩ 8 (by kernel_rfl) (by kernel_rfl) (by kernel_rfl) (by kernel_rfl)) ?_
  intro W base args ds gs before hval0 hW hcnd hsz0 _
  have hval : ∀ (j : Nat) t v, Try.f5.params[j]? = some t → args[j]? = some v → Value.okWide Try.prog W .any base t v := hval0
  have hW' := hW
  obtain ⟨p, q, hA0, hV, rfl, hfz, hnd⟩ := hW
  have hA : DataW.TrodAll enc Try.prog W 0 (fun _ => true) true Try.f5.params.toList args.toList ds p := hA0
  rw [Try.params5] at hA hval
  have hsz : (DataW.weightsEach Try.prog (Try.f5.params.toList ++ Rows.netKeepsSpec.plain.varTypes Try.prog) (ds ++ gs)).all (· ≤ reachBytes) = true := hsz0
  rw [Try.params5] at hsz
  have hAll := hA
  obtain ⟨v0, vs0, d0, ds0, p0, q0, hargs, rfl, rfl, h0, r0⟩ := trodAll_cons hA
  obtain ⟨v1, vs1, d1, ds1, p1, q1, rfl, rfl, rfl, h1, r1⟩ := trodAll_cons r0
  obtain ⟨rfl, rfl, rfl⟩ := trodAll_nil r1
  obtain rfl : args = #[v0, v1] := by cases args; simp_all
  obtain ⟨rfl, rfl⟩ := trodVars_none hV
  obtain ⟨A, c, L, rfl, hlc, hcm, hacts⟩ := acts_val (tb := 5) (tF := 26) (tL := 22) Try.underlying37 (by kernel_rfl) Try.underlying39 (by kernel_rfl) Try.underlying3 (by simp) Try.underlying22 (by kernel_rfl) Try.underlying26 (by kernel_rfl) Try.underlying5 (by kernel_rfl) (hval 0 37 v0 rfl rfl) h0 (small_each hsz (j := 0) rfl rfl)
  obtain ⟨kind, way, i, k, vL, m, y, rfl, htr, hsm⟩ := act_val (tL := 22) Try.underlying39 (by kernel_rfl) (by kernel_rfl) Try.underlying3 (by simp) (hval 1 39 v1 rfl rfl) h1 (small_each hsz (j := 1) rfl rfl)
  obtain ⟨Aa, ca, fs, ls, e1, hca, hcam, hfin⟩ := frames_trod (b := 5) Try.underlying22 (by kernel_rfl) Try.underlying26 (by kernel_rfl) Try.underlying5 (by kernel_rfl) htr hsm
  simp only [List.cons.injEq, and_true] at e1
  subst e1
  have key : Calls Try.prog 5 #[.slice A L.length c, actV kind way i k (.slice Aa ls.length ca)] W (Ret (.bool true) Non W) := by
    by_cases hx : longB L = true ∨ 100 < ls.length ∨ kind < 0 ∨ 5 < kind
    · exact netKeeps_skip A c L ⟨kind, way, i, k, ls⟩ Aa ca W hacts hlc hcm (Nat.le_trans hca hcam) hx
    · simp only [not_or, Bool.not_eq_true, Nat.not_lt, Int.not_lt] at hx
      exact netKeeps_walk A c L ⟨kind, way, i, k, ls⟩ Aa ca fs W hacts hlc hcm hfin hca hcam hx.1 hx.2.1 hx.2.2.1 hx.2.2.2
  refine key.mono fun e W' ⟨he, ho⟩ => ?_
  subst he
  have bel : Below W.heap.size W W' := ho.below (fun _ h => h.elim) (Nat.le_refl _)
  exact ⟨_, rfl, _, _, _, [], _, [], hW', trodAll_mk1 (shut_bool Try.underlying4 _), trodAll_below laidOut bel _ _ _ _ (by decide +kernel) hAll, rfl, bel.frame _, fun h => by cases h⟩

theorem over : Rows.netKeepsRow.holds Try.pinned (OpenSpec.ofChange Rows.netKeepsSpec) :=
  OpenClaim.holds_of_wide 5 Try.f5 rfl rfl rfl rfl rfl rfl rfl ⟨rfl, rfl, rfl, rfl, rfl⟩ rfl rfl rfl rfl rfl (by kernel_rfl) Try.func5 (by kernel_rfl)
    (of_decide_eq_true (by kernel_rfl)) (by unfold Func.isWrapper; first | (rw [if_pos (by decide +kernel)]; kernel_rfl) | (rw [if_neg (by decide +kernel)]; exact ⟨rfl, rfl⟩))
    (fun os started H enc _ => lifted os started H enc)

theorem proved : Rows.NetKeepsSaid := over
#print axioms proved
end Go.Proofs.Ytlagccfllnhgbaa.netKeeps
