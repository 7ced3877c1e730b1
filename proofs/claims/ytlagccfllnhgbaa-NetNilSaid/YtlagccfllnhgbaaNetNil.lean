/- NetNil: a net that is not there. -/
import Derived.Test.YtlagccfllnhgbaaNetJ
namespace Go.Proofs.Ytlagccfllnhgbaa
open Go.RowKit
set_option linter.unusedVariables false
set_option linter.unusedSimpArgs false
def nilErr (kind : Int) : Int := if 1 ≤ kind ∧ kind ≤ 4 then 7 else 0
def NilDone (x : Int) (w w' : World) : Prop := w = w' ∧ True
theorem ndo_nil (kind way i k : Int) (A : Option Addr) (n cp : Nat) (w : World) :
    Calls Try.prog 21 #[.pointer none, actV kind way i k (.slice A n cp)] w fun e w' => e = .returned (.tuple #[.int .i64 0, .slice none 0 0, .int .i64 (nilErr kind)]) ∧ boxed w kind way i k A n cp = w' := by
  by_cases h0 : kind = 0
  · subst h0
    refine (ndo_0 none way i k A n cp w (fun s w' => s = 0 ∧ boxed w 0 way i k A n cp = w') ((nsend_no _ _ _ _ (nthere_nil _ _)).mono ?_)).mono ?_
    · rintro e w' ⟨rfl, rfl⟩; exact ⟨0, rfl, rfl, rfl⟩
    · rintro e w' ⟨s, rfl, rfl, rfl⟩; exact ⟨rfl, rfl⟩
  by_cases h1 : kind = 1
  · subst h1
    refine (ndo_1 none way i k A n cp w (fun v s w' => v = .slice none 0 0 ∧ s = 7 ∧ boxed w 1 way i k A n cp = w') ((ntake_no _ _ _ 7 _ (by decide) (nwrong_nil _ _ _)).mono ?_)).mono ?_
    · rintro e w' ⟨rfl, rfl⟩; exact ⟨_, 7, rfl, rfl, rfl, rfl⟩
    · rintro e w' ⟨v, s, rfl, rfl, rfl, rfl⟩; exact ⟨rfl, rfl⟩
  by_cases h2 : kind = 2
  · subst h2
    refine (ndo_2 none way i k A n cp w (fun s w' => s = 7 ∧ boxed w 2 way i k A n cp = w') ((ntwice_no _ _ _ 7 _ (by decide) (nwrong_nil _ _ _)).mono ?_)).mono ?_
    · rintro e w' ⟨rfl, rfl⟩; exact ⟨7, rfl, rfl, rfl⟩
    · rintro e w' ⟨s, rfl, rfl, rfl⟩; exact ⟨rfl, rfl⟩
  by_cases h3 : kind = 3
  · subst h3
    refine (ndo_3 none way i k A n cp w (fun s w' => s = 7 ∧ boxed w 3 way i k A n cp = w') ((nlose_no _ _ _ 7 _ _ (ntake_no _ _ _ 7 _ (by decide) (nwrong_nil _ _ _))).mono ?_)).mono ?_
    · rintro e w' ⟨rfl, rfl⟩; exact ⟨7, rfl, rfl, rfl⟩
    · rintro e w' ⟨s, rfl, rfl, rfl⟩; exact ⟨rfl, rfl⟩
  by_cases h4 : kind = 4
  · subst h4
    refine (ndo_4 none way i k A n cp w (fun s w' => s = 7 ∧ boxed w 4 way i k A n cp = w') ((nturn_no1 _ _ _ _ 7 _ (by decide) (nwrong_nil _ _ _)).mono ?_)).mono ?_
    · rintro e w' ⟨rfl, rfl⟩; exact ⟨7, rfl, rfl, rfl⟩
    · rintro e w' ⟨s, rfl, rfl, rfl⟩; exact ⟨rfl, rfl⟩
  rw [show nilErr kind = 0 from by unfold nilErr; rw [if_neg (by omega)]]
  refine (ndo_5 none kind way i k A n cp w (fun w' => boxed w kind way i k A n cp = w') (by omega) ((nclear_no _ _ _ (nthere_nil _ _)).mono ?_)).mono ?_
  · rintro e w' ⟨rfl, rfl⟩; exact ⟨rfl, rfl⟩
  · rintro e w' ⟨rfl, rfl⟩; exact ⟨rfl, rfl⟩
section
set_option maxHeartbeats 2000000
theorem netNil_walk (kind way i k : Int) (A : Option Addr) (n cp : Nat) (w : World) :
    Calls Try.prog 7 #[actV kind way i k (.slice A n cp)] w (Ret (.bool true) Non w) := by
  have HW := fun w => Lib.hid (nwakes w)
  have HD := fun w => Lib.hid (ndo_nil kind way i k A n cp w)
  have HL := fun w => Lib.hid (nlen_no none way w (nthere_nil way w))
  have HA := fun w => Lib.hid (nall_nil w)
  have hex : nilErr kind = (if 1 ≤ kind ∧ kind ≤ 4 then 7 else 0) := rfl
  generalize nilErr kind = er at *
  unfold actV at *
  rcases (show kind < 1 ∨ (1 ≤ kind ∧ kind ≤ 4) ∨ 4 < kind by omega) with hk | hk | hk
  all_goals
    first | rw [if_neg (by omega)] at hex | rw [if_pos (by omega)] at hex
    subst hex
    go_enter Try.func7, Try.ntmps7
    go_wp2_with fail
    refine (HW _).out.mono ?_
    rintro e w' ⟨rfl, ho⟩
    have hb0 : w'.heap[w.heap.size]? = (w.alloc (.cells #[.int .i64 kind, .int .i64 way, .int .i64 i, .int .i64 k, .slice A n cp] 39)).heap[w.heap.size]? := ho.block _ (by simp) id
    have hb : Box w' w.heap.size 39 #[.int .i64 kind, .int .i64 way, .int .i64 i, .int .i64 k, .slice A n cp] := hb0.trans (Box.fresh w _ _)
    have Ho : Only Non w w' := ((Only.refl _ _).alloc _).trans ho
    clear ho
    have c0 : w'.cell? ⟨w.heap.size, 0, none⟩ = some (.int .i64 kind) := hb.cellAt rfl
    have c1 : w'.cell? ⟨w.heap.size, 1, none⟩ = some (.int .i64 way) := hb.cellAt rfl
    have c2 : w'.cell? ⟨w.heap.size, 2, none⟩ = some (.int .i64 i) := hb.cellAt rfl
    have c3 : w'.cell? ⟨w.heap.size, 3, none⟩ = some (.int .i64 k) := hb.cellAt rfl
    have c4 : w'.cell? ⟨w.heap.size, 4, none⟩ = some (.slice A n cp) := hb.cellAt rfl
    have Hb := Lib.hid hb
    clear hb0 hb
    have HO := Lib.hid Ho; clear Ho
    go_wp2_with fail
    refine (HD _).out.mono ?_
    rintro e w2 ⟨rfl, e2⟩
    have hb2 : Box w2 w.heap.size 39 #[.int .i64 kind, .int .i64 way, .int .i64 i, .int .i64 k, .slice A n cp] := by rw [← e2]; exact Hb.out.alloc _
    have HO2 := Lib.hid (show Only Non w w2 by rw [← e2]; exact HO.out.alloc _)
    clear c0 c1 c2 c3 c4 e2
    have c0 : w2.cell? ⟨w.heap.size, 0, none⟩ = some (.int .i64 kind) := hb2.cellAt rfl
    have c1 : w2.cell? ⟨w.heap.size, 1, none⟩ = some (.int .i64 way) := hb2.cellAt rfl
    clear hb2
    go_wp2_with (first | (go_at_call 19; refine (HL _).out.mono ?_; rintro e w' ⟨rfl, rfl⟩) | (go_at_call 17; refine (HA _).out.mono ?_; rintro e w' ⟨rfl, rfl⟩))
    go_ret
    refine ⟨?_, HO2.out⟩
    first
      | rfl
      | (show Ending.returned (Value.bool !decide (kind ≤ 4)) = _; rw [decide_eq_false (by omega)]; rfl)
end
end Go.Proofs.Ytlagccfllnhgbaa
