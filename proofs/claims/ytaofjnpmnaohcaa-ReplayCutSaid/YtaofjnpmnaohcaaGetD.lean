/- replay.Get at a script's bytes, whole, with a byte more, cut off. -/
import Derived.Test.YtaofjnpmnaohcaaRplM
namespace Go.Proofs.Ytaofjnpmnaohcaa
open Go.RowKit
set_option linter.unusedVariables false
theorem get_whole (A : Option Addr) (n cp : Nat) (c : CfgA) (l : List ActR) (w : World) (hby : Byt w (.slice A n cp) (scriptB c l)) (h : ScriptP c l) (hd : ∀ i, i < l.length → IsB (l.getD i default).data) :
    Calls Try.prog 10 #[.slice A n cp] w fun e w' => ∃ B m cb D cd, e = .returned (.tuple #[.agg (scrCells c (.slice B m cb) (.slice D l.length cd)), .int .i64 0]) ∧ HintsAt w' B m cb c.h ∧ ActsAt w' D l.length cd l ∧ Only Non w w' := by
  obtain ⟨h1, h2, h3⟩ := read_whole h []
  rw [List.append_nil] at h1 h2 h3
  have hl := h3 l.length (Nat.le_refl _)
  rw [List.take_length] at hl
  refine (get25_rest A n cp (scriptB c l) c _ l.length _ w hby (isB_script h hd) h1 h.conf h2 h.few (fun k m q hk hq a ha => ?_)).mono ?_
  · rw [h3 k hk] at hq
    injection hq with hq
    injection hq with hq _
    subst hq
    exact take_acts h k a ha
  · rintro e w' ⟨hh, ho⟩
    rcases hh with ⟨x, hx, _⟩ | ⟨m, q, hm, hh⟩
    · rw [hl] at hx; cases hx
    · rw [hl] at hm
      injection hm with hm
      injection hm with hm hq
      subst hm hq
      rcases hh with ⟨hlt, _⟩ | ⟨_, B, m, cb, D, cd, rfl, hH, hA⟩
      · rw [script_len] at hlt; omega
      · exact ⟨B, m, cb, D, cd, rfl, hH, hA, ho⟩
theorem get_more (A : Option Addr) (n cp : Nat) (c : CfgA) (l : List ActR) (w : World) (hby : Byt w (.slice A n cp) (scriptB c l ++ [0])) (h : ScriptP c l) (hd : ∀ i, i < l.length → IsB (l.getD i default).data) :
    Calls Try.prog 10 #[.slice A n cp] w fun e w' => e = .returned (.tuple #[.agg z18, .int .i64 2]) ∧ Only Non w w' := by
  obtain ⟨h1, h2, h3⟩ := read_whole h [0]
  have hl := h3 l.length (Nat.le_refl _)
  rw [List.take_length] at hl
  refine (get25_rest A n cp (scriptB c l ++ [0]) c _ l.length _ w hby (isB_app (isB_script h hd) (fun x hx => by simp at hx; omega)) h1 h.conf h2 h.few (fun k m q hk hq a ha => ?_)).mono ?_
  · rw [h3 k hk] at hq
    injection hq with hq
    injection hq with hq _
    subst hq
    exact take_acts h k a ha
  · rintro e w' ⟨hh, ho⟩
    rcases hh with ⟨x, hx, _⟩ | ⟨m, q, hm, hh⟩
    · rw [hl] at hx; cases hx
    · rw [hl] at hm
      injection hm with hm
      injection hm with hm hq
      subst hm hq
      rcases hh with ⟨_, he⟩ | ⟨hge, _⟩
      · exact ⟨he, ho⟩
      · rw [List.length_append, script_len] at hge
        simp at hge
        omega
theorem get_cut (A : Option Addr) (n cp r : Nat) (c : CfgA) (l : List ActR) (w : World) (hby : Byt w (.slice A n cp) ((scriptB c l).take r)) (hr : r < (scriptB c l).length) (h : ScriptP c l) (hd : ∀ i, i < l.length → IsB (l.getD i default).data) :
    Calls Try.prog 10 #[.slice A n cp] w fun e w' => e = .returned (.tuple #[.agg z18, .int .i64 1]) ∧ Only Non w w' := by
  have hb : IsB ((scriptB c l).take r) := fun x hx => isB_script h hd x (List.mem_of_mem_take hx)
  rcases read_cut h hr with h1 | ⟨h1, h2⟩ | ⟨h1, j, h2, h3, h4⟩
  · exact get25_short A n cp _ 1 w hby hb h1
  · exact get25_num A n cp _ c _ 1 w hby hb h1 h.conf h2
  · refine (get25_rest A n cp _ c _ l.length j w hby hb h1 h.conf h2 h.few (fun k m q hk hq a ha => ?_)).mono ?_
    · rw [h4 k m q hk hq] at ha
      exact take_acts h k a ha
    · rintro e w' ⟨hh, ho⟩
      rcases hh with ⟨x, hx, he⟩ | ⟨m, q, hm, _⟩
      · rw [h3] at hx
        injection hx with hx
        subst hx
        exact ⟨he, ho⟩
      · rw [h3] at hm; cases hm
end Go.Proofs.Ytaofjnpmnaohcaa
