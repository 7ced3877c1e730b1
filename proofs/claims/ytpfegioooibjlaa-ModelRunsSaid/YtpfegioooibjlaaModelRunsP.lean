/- ModelRuns holds for all capacities and every list of blocks: a run is its uses, one by one, and a greater list misses no more. No condition. -/
import Derived.Test.YtpfegioooibjlaaRow
import Derived.Test.YtpfegioooibjlaaArgs
import Derived.Test.YtpfegioooibjlaaModelRuns
namespace Go.Proofs.Ytpfegioooibjlaa.modelRuns
open Go.ChangeShapes Go.WideShapes Go.ChangeAt Go.RowKit Go.Joins
set_option linter.unusedVariables false

theorem lifted (os : Os) (started : os.Started) (H : Type) (enc : TypeId × Value → H) :
    ReturnsInHanded {} Try.checked os 4 .any (Rows.modelRunsSpec.pre6 enc Try.prog Try.f4 Rows.modelRunsRow.domain false) (Rows.modelRunsSpec.post enc Try.prog Try.f4 false true false false) := by
  refine returnsInHanded_of_change (C := Try.checked) own started (by kernel_rfl) Try.func4
    (ChangeSpec.witness6 (enc := enc) (C := Try.checked) false ⟨#[], #[.agg #[.int .i64 0, .int .i64 0, .int .i64 0], .int .u8 0, .slice none 0 0], []⟩ 8 (by kernel_rfl) (by kernel_rfl) (by kernel_rfl) (by kernel_rfl)) ?_
  intro W base args ds gs before hval0 hW hcnd _
  have hval : ∀ (j : Nat) t v, Try.f4.params[j]? = some t → args[j]? = some v → Value.okWide Try.prog W .any base t v := hval0
  have hW' := hW
  obtain ⟨p, q, hA0, hV, rfl, hfz, hnd⟩ := hW
  have hA : DataW.TrodAll enc Try.prog W 0 (fun _ => true) true Try.f4.params.toList args.toList ds p := hA0
  rw [Try.params4] at hA hval
  have hAll := hA
  obtain ⟨v0, vs0, d0, ds0, p0, q0, hargs, rfl, rfl, h0, r0⟩ := trodAll_cons hA
  obtain ⟨v1, vs1, d1, ds1, p1, q1, rfl, rfl, rfl, h1, r1⟩ := trodAll_cons r0
  obtain ⟨v2, vs2, d2, ds2, p2, q2, rfl, rfl, rfl, h2, r2⟩ := trodAll_cons r1
  obtain ⟨rfl, rfl, rfl⟩ := trodAll_nil r2
  obtain rfl : args = #[v0, v1, v2] := by cases args; simp_all
  obtain ⟨rfl, rfl⟩ := trodVars_none hV
  obtain ⟨c0, c1, c2, rfl⟩ := three_arg Try.underlying22 (by kernel_rfl) Try.underlying3 (by kernel_rfl) (hval 0 22 v0 rfl rfl) h0
  obtain ⟨x, rfl, _, _, wx⟩ := open_int Try.underlying5 (hval 1 5 v1 rfl rfl) h1
  have hx : 0 ≤ x ∧ x ≤ 255 := by simpa [Lit.wf, IntKind.min, IntKind.max, IntKind.signed, IntKind.bits] using wx
  obtain ⟨A, c, bs, rfl, hbs⟩ := ints_arg Try.underlying23 (by kernel_rfl) Try.underlying3 (hval 2 23 v2 rfl rfl) h2
  have key : Calls Try.prog 4 #[.agg #[.int .i64 c0, .int .i64 c1, .int .i64 c2], .int .u8 x, .slice A bs.length c] W (Ret (.bool true) Non W) := by
    by_cases hl : 200 < bs.length
    · exact modelRuns_skip c0 c1 c2 x A _ c W hl (by obtain ⟨_, _, e, h1, h2, _⟩ := hbs; omega)
    · cases hr : rightC c0 c1 c2
      · exact modelRuns_no c0 c1 c2 x A c bs W hbs (by omega) hr
      · have hbd := right_bd hr
        obtain ⟨k0, rfl⟩ : ∃ k : Nat, c0 = k := ⟨c0.toNat, by omega⟩
        obtain ⟨k1, rfl⟩ : ∃ k : Nat, c1 = k := ⟨c1.toNat, by omega⟩
        obtain ⟨k2, rfl⟩ : ∃ k : Nat, c2 = k := ⟨c2.toNat, by omega⟩
        obtain ⟨y, rfl⟩ : ∃ k : Nat, x = k := ⟨x.toNat, by omega⟩
        cases hal : bs.all inR
        · exact modelRuns_out k0 k1 k2 y A c bs W hbs (by omega) hr hal
        · exact modelRuns_walk k0 k1 k2 y A c bs W hbs (by omega) (by omega) hr hal
  refine key.mono fun e W' ⟨he, ho⟩ => ?_
  subst he
  have bel : Below W.heap.size W W' := ho.below (fun _ h => h.elim) (Nat.le_refl _)
  exact ⟨_, rfl, _, _, _, [], _, [], hW', trodAll_mk1 (shut_bool Try.underlying4 _), trodAll_below laidOut bel _ _ _ _ (by decide +kernel) hAll, rfl, bel.frame _, fun h => by cases h⟩

theorem over : Rows.modelRunsRow.holds Try.pinned (OpenSpec.ofChange Rows.modelRunsSpec) :=
  OpenClaim.holds_of_wide 4 Try.f4 rfl rfl rfl rfl rfl rfl rfl ⟨rfl, rfl, rfl, rfl, rfl⟩ rfl rfl rfl rfl rfl (by kernel_rfl) Try.func4 (by kernel_rfl)
    (of_decide_eq_true (by kernel_rfl)) (by unfold Func.isWrapper; first | (rw [if_pos (by decide +kernel)]; kernel_rfl) | (rw [if_neg (by decide +kernel)]; exact ⟨rfl, rfl⟩))
    (fun os started H enc _ => lifted os started H enc)

theorem proved : Rows.ModelRunsSaid := over
#print axioms proved
end Go.Proofs.Ytpfegioooibjlaa.modelRuns
