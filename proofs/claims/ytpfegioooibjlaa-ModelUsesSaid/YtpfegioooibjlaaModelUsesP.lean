/- ModelUses holds for all capacities and every list of blocks: behind each use the list, its tiers and misses are what the document says. No condition. -/
import Derived.Test.YtpfegioooibjlaaRow
import Derived.Test.YtpfegioooibjlaaArgs
import Derived.Test.YtpfegioooibjlaaModelUses
namespace Go.Proofs.Ytpfegioooibjlaa.modelUses
open Go.ChangeShapes Go.WideShapes Go.ChangeAt Go.RowKit Go.Joins
set_option linter.unusedVariables false

theorem lifted (os : Os) (started : os.Started) (H : Type) (enc : TypeId × Value → H) :
    ReturnsInHanded {} Try.checked os 3 .any (Rows.modelUsesSpec.pre6 enc Try.prog Try.f3 Rows.modelUsesRow.domain false) (Rows.modelUsesSpec.post enc Try.prog Try.f3 false true false false) := by
  refine returnsInHanded_of_change (C := Try.checked) own started (by kernel_rfl) Try.func3
    (ChangeSpec.witness6 (enc := enc) (C := Try.checked) false ⟨#[], #[.agg #[.int .i64 0, .int .i64 0, .int .i64 0], .slice none 0 0], []⟩ 8 (by kernel_rfl) (by kernel_rfl) (by kernel_rfl) (by kernel_rfl)) ?_
  intro W base args ds gs before hval0 hW hcnd _
  have hval : ∀ (j : Nat) t v, Try.f3.params[j]? = some t → args[j]? = some v → Value.okWide Try.prog W .any base t v := hval0
  have hW' := hW
  obtain ⟨p, q, hA0, hV, rfl, hfz, hnd⟩ := hW
  have hA : DataW.TrodAll enc Try.prog W 0 (fun _ => true) true Try.f3.params.toList args.toList ds p := hA0
  rw [Try.params3] at hA hval
  have hAll := hA
  obtain ⟨v0, vs0, d0, ds0, p0, q0, hargs, rfl, rfl, h0, r0⟩ := trodAll_cons hA
  obtain ⟨v1, vs1, d1, ds1, p1, q1, rfl, rfl, rfl, h1, r1⟩ := trodAll_cons r0
  obtain ⟨rfl, rfl, rfl⟩ := trodAll_nil r1
  obtain rfl : args = #[v0, v1] := by cases args; simp_all
  obtain ⟨rfl, rfl⟩ := trodVars_none hV
  obtain ⟨c0, c1, c2, rfl⟩ := three_arg Try.underlying22 (by kernel_rfl) Try.underlying3 (by kernel_rfl) (hval 0 22 v0 rfl rfl) h0
  obtain ⟨A, c, bs, rfl, hbs⟩ := ints_arg Try.underlying23 (by kernel_rfl) Try.underlying3 (hval 1 23 v1 rfl rfl) h1
  have key : Calls Try.prog 3 #[.agg #[.int .i64 c0, .int .i64 c1, .int .i64 c2], .slice A bs.length c] W (Ret (.bool true) Non W) := by
    by_cases hl : 200 < bs.length
    · exact modelUses_skip c0 c1 c2 A _ c W hl (by obtain ⟨_, _, e, h1, h2, _⟩ := hbs; omega)
    · cases hr : rightC c0 c1 c2
      · exact modelUses_no c0 c1 c2 A c bs W hbs (by omega) hr
      · have hbd := right_bd hr
        obtain ⟨k0, rfl⟩ : ∃ k : Nat, c0 = k := ⟨c0.toNat, by omega⟩
        obtain ⟨k1, rfl⟩ : ∃ k : Nat, c1 = k := ⟨c1.toNat, by omega⟩
        obtain ⟨k2, rfl⟩ : ∃ k : Nat, c2 = k := ⟨c2.toNat, by omega⟩
        exact modelUses_walk k0 k1 k2 A c bs W hbs (by omega) hr
  refine key.mono fun e W' ⟨he, ho⟩ => ?_
  subst he
  have bel : Below W.heap.size W W' := ho.below (fun _ h => h.elim) (Nat.le_refl _)
  exact ⟨_, rfl, _, _, _, [], _, [], hW', trodAll_mk1 (shut_bool Try.underlying4 _), trodAll_below laidOut bel _ _ _ _ (by decide +kernel) hAll, rfl, bel.frame _, fun h => by cases h⟩

theorem over : Rows.modelUsesRow.holds Try.pinned (OpenSpec.ofChange Rows.modelUsesSpec) :=
  OpenClaim.holds_of_wide 3 Try.f3 rfl rfl rfl rfl rfl rfl rfl ⟨rfl, rfl, rfl, rfl, rfl⟩ rfl rfl rfl rfl rfl (by kernel_rfl) Try.func3 (by kernel_rfl)
    (of_decide_eq_true (by kernel_rfl)) (by unfold Func.isWrapper; first | (rw [if_pos (by decide +kernel)]; kernel_rfl) | (rw [if_neg (by decide +kernel)]; exact ⟨rfl, rfl⟩))
    (fun os started H enc _ => lifted os started H enc)

theorem proved : Rows.ModelUsesSaid := over
#print axioms proved
end Go.Proofs.Ytpfegioooibjlaa.modelUses
