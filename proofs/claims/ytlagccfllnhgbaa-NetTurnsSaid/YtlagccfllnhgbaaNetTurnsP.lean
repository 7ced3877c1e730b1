/- NetTurns holds for every list and every two places: two frames that change places twice are where they were. No condition. -/
import Derived.Test.YtlagccfllnhgbaaRow
import Derived.SizedLaws
import Derived.Test.YtlagccfllnhgbaaNetTurns
namespace Go.Proofs.Ytlagccfllnhgbaa.netTurns
open Go.ChangeShapes Go.WideShapes Go.ChangeAt Go.RowKit Go.Joins
set_option linter.unusedVariables false

theorem lifted (os : Os) (started : os.Started) (H : Type) (enc : TypeId × Value → H) :
    ReturnsInHanded {} Try.checked os 4 .any (Rows.netTurnsSpec.pre6 enc Try.prog Try.f4 Rows.netTurnsRow.domain false) (Rows.netTurnsSpec.post enc Try.prog Try.f4 false true false false) := by
  refine returnsInHanded_of_change_sized (C := Try.checked) own started (by kernel_rfl) Try.func4
    (ChangeSpec.witness6 (enc := enc) (C := Try.checked) false ⟨#[], #[.slice none 0 0, .int .u8 0, .int .u8 0], []⟩ 8 (by kernel_rfl) (by kernel_rfl) (by kernel_rfl) (by kernel_rfl)) ?_
  intro W base args ds gs before hval0 hW hcnd hsz0 _
  have hval : ∀ (j : Nat) t v, Try.f4.params[j]? = some t → args[j]? = some v → Value.okWide Try.prog W .any base t v := hval0
  have hW' := hW
  obtain ⟨p, q, hA0, hV, rfl, hfz, hnd⟩ := hW
  have hA : DataW.TrodAll enc Try.prog W 0 (fun _ => true) true Try.f4.params.toList args.toList ds p := hA0
  rw [Try.params4] at hA hval
  have hsz : (DataW.weightsEach Try.prog (Try.f4.params.toList ++ Rows.netTurnsSpec.plain.varTypes Try.prog) (ds ++ gs)).all (· ≤ reachBytes) = true := hsz0
  rw [Try.params4] at hsz
  have hAll := hA
  obtain ⟨v0, vs0, d0, ds0, p0, q0, hargs, rfl, rfl, h0, r0⟩ := trodAll_cons hA
  obtain ⟨v1, vs1, d1, ds1, p1, q1, rfl, rfl, rfl, h1, r1⟩ := trodAll_cons r0
  obtain ⟨v2, vs2, d2, ds2, p2, q2, rfl, rfl, rfl, h2, r2⟩ := trodAll_cons r1
  obtain ⟨rfl, rfl, rfl⟩ := trodAll_nil r2
  obtain rfl : args = #[v0, v1, v2] := by cases args; simp_all
  obtain ⟨rfl, rfl⟩ := trodVars_none hV
  obtain ⟨A, c, fs, ls, rfl, hlc, hcm, hfin⟩ := frames_val (b := 5) Try.underlying22 (by kernel_rfl) Try.underlying26 (by kernel_rfl) Try.underlying5 (by kernel_rfl) (hval 0 22 v0 rfl rfl) h0 (small_each hsz (j := 0) rfl rfl)
  obtain ⟨xi, rfl, _, _, wxi⟩ := open_int Try.underlying5 (hval 1 5 v1 rfl rfl) h1
  have hxi : 0 ≤ xi ∧ xi ≤ 255 := by simpa [Lit.wf, IntKind.min, IntKind.max, IntKind.signed, IntKind.bits] using wxi
  obtain ⟨xk, rfl, _, _, wxk⟩ := open_int Try.underlying5 (hval 2 5 v2 rfl rfl) h2
  have hxk : 0 ≤ xk ∧ xk ≤ 255 := by simpa [Lit.wf, IntKind.min, IntKind.max, IntKind.signed, IntKind.bits] using wxk
  have key : Calls Try.prog 4 #[.slice A ls.length c, .int .u8 xi, .int .u8 xk] W (Ret (.bool true) Non W) := by
    by_cases hn : ls.length = 0 ∨ 100 < ls.length
    · exact netTurns_skip A c ls.length xi xk W hn (by omega)
    · exact netTurns_walk A c fs ls xi xk W hfin hlc hcm hxi.1 hxi.2 hxk.1 hxk.2 (by omega) (by omega)
  refine key.mono fun e W' ⟨he, ho⟩ => ?_
  subst he
  have bel : Below W.heap.size W W' := ho.below (fun _ h => h.elim) (Nat.le_refl _)
  exact ⟨_, rfl, _, _, _, [], _, [], hW', trodAll_mk1 (shut_bool Try.underlying4 _), trodAll_below laidOut bel _ _ _ _ (by decide +kernel) hAll, rfl, bel.frame _, fun h => by cases h⟩

theorem over : Rows.netTurnsRow.holds Try.pinned (OpenSpec.ofChange Rows.netTurnsSpec) :=
  OpenClaim.holds_of_wide 4 Try.f4 rfl rfl rfl rfl rfl rfl rfl ⟨rfl, rfl, rfl, rfl, rfl⟩ rfl rfl rfl rfl rfl (by kernel_rfl) Try.func4 (by kernel_rfl)
    (of_decide_eq_true (by kernel_rfl)) (by unfold Func.isWrapper; first | (rw [if_pos (by decide +kernel)]; kernel_rfl) | (rw [if_neg (by decide +kernel)]; exact ⟨rfl, rfl⟩))
    (fun os started H enc _ => lifted os started H enc)

theorem proved : Rows.NetTurnsSaid := over
#print axioms proved
end Go.Proofs.Ytlagccfllnhgbaa.netTurns
