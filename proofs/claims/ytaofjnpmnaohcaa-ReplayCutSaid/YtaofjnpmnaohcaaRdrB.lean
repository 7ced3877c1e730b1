/- replay.into: numbers are read by a reader's method into places. -/
import Derived.Test.YtaofjnpmnaohcaaRdrA
namespace Go.Proofs.Ytaofjnpmnaohcaa
open Go.RowKit
set_option linter.unusedVariables false
set_option linter.unusedSimpArgs false
def ItRel (n : Nat) (I : Nat → World → Prop) (i : Value) (wr : World) : Prop := ∃ k : Nat, k ≤ n ∧ i = .int .i64 k ∧ I k wr
section
set_option maxHeartbeats 2000000
set_option maxRecDepth 100000
theorem into_num (r n cb : Nat) (B : Option Addr) (pg po : Nat → Nat) (I : Nat → World → Prop) (w : World) (hn : n ≤ 3) (h0 : I 0 w)
    (hI : ∀ k wr, k < n → I k wr → (∃ g o, B = some ⟨g, o, none⟩ ∧ wr.cell? ⟨g, o + k, none⟩ = some (.pointer (some ⟨pg k, po k, none⟩))) ∧
      Calls Try.prog 26 #[.pointer (some ⟨r, 0, none⟩)] wr fun e w' => ∃ x : Int, e = .returned (.int .i64 x) ∧ (∃ u, w'.cell? ⟨pg k, po k, none⟩ = some u) ∧ w'.frozen? ⟨pg k, po k, none⟩ = false ∧ I (k + 1) (w'.setCell ⟨pg k, po k, none⟩ (.int .i64 x))) :
    Calls Try.prog 27 #[.func (.func 26) #[.pointer (some ⟨r, 0, none⟩)] #[], .slice B n cb] w fun e w' => e = .returned (.tuple #[]) ∧ I n w' := by
  have HI := Lib.hid hI
  have HS := Lib.hid (show ItRel n I (.int .i64 0) w from ⟨0, Nat.zero_le _, rfl, h0⟩)
  clear hI h0
  go_enter Try.func27, Try.ntmps27
  go_wp2_with fail
  go_loopw [8] (fun i wr => ItRel n I i wr) (fun i _ => n - (intOf i).toNat)
  case atStart => exact HS.out
  case round =>
    clear HS
    obtain ⟨k, hk, rfl, hi⟩ := hrel
    by_cases hlt : k < n
    · have hlti : (k : Int) < n := by omega
      obtain ⟨⟨g, o, hB, hc⟩, hcall⟩ := HI.out k wr hlt hi
      subst hB
      have HC := Lib.hid hcall
      clear hcall hi
      have Hlt := Lib.hid hlt
      generalize pg k = pgk at *
      generalize po k = pok at *
      go_wp2_with fail
      refine HC.out.mono ?_
      rintro e w1 ⟨x, rfl, ⟨u, hu⟩, hf, hn1⟩
      have HR := Lib.hid (show ItRel n I (.int .i64 ((k : Int) + 1)) (w1.setCell ⟨pgk, pok, none⟩ (.int .i64 x)) from ⟨k + 1, Hlt.out, by simp, hn1⟩)
      clear hn1
      go_wp2_with fail
      refine ⟨?_, ?_⟩
      · (repeat first | exact ⟨HR.out, rfl⟩ | exact HR.out | apply Exists.intro)
      · simp [intOf]; omega
    · obtain rfl : k = n := by omega
      have HF := Lib.hid hi
      clear hi hlt hk
      go_wp2_with fail
      go_end0
      exact ⟨rfl, HF.out⟩
theorem into_sgn (r n cb : Nat) (B : Option Addr) (pg po : Nat → Nat) (I : Nat → World → Prop) (w : World) (hn : n ≤ 3) (h0 : I 0 w)
    (hI : ∀ k wr, k < n → I k wr → (∃ g o, B = some ⟨g, o, none⟩ ∧ wr.cell? ⟨g, o + k, none⟩ = some (.pointer (some ⟨pg k, po k, none⟩))) ∧
      Calls Try.prog 28 #[.pointer (some ⟨r, 0, none⟩)] wr fun e w' => ∃ x : Int, e = .returned (.int .i64 x) ∧ (∃ u, w'.cell? ⟨pg k, po k, none⟩ = some u) ∧ w'.frozen? ⟨pg k, po k, none⟩ = false ∧ I (k + 1) (w'.setCell ⟨pg k, po k, none⟩ (.int .i64 x))) :
    Calls Try.prog 27 #[.func (.func 28) #[.pointer (some ⟨r, 0, none⟩)] #[], .slice B n cb] w fun e w' => e = .returned (.tuple #[]) ∧ I n w' := by
  have HI := Lib.hid hI
  have HS := Lib.hid (show ItRel n I (.int .i64 0) w from ⟨0, Nat.zero_le _, rfl, h0⟩)
  clear hI h0
  go_enter Try.func27, Try.ntmps27
  go_wp2_with fail
  go_loopw [8] (fun i wr => ItRel n I i wr) (fun i _ => n - (intOf i).toNat)
  case atStart => exact HS.out
  case round =>
    clear HS
    obtain ⟨k, hk, rfl, hi⟩ := hrel
    by_cases hlt : k < n
    · have hlti : (k : Int) < n := by omega
      obtain ⟨⟨g, o, hB, hc⟩, hcall⟩ := HI.out k wr hlt hi
      subst hB
      have HC := Lib.hid hcall
      clear hcall hi
      have Hlt := Lib.hid hlt
      generalize pg k = pgk at *
      generalize po k = pok at *
      go_wp2_with fail
      refine HC.out.mono ?_
      rintro e w1 ⟨x, rfl, ⟨u, hu⟩, hf, hn1⟩
      have HR := Lib.hid (show ItRel n I (.int .i64 ((k : Int) + 1)) (w1.setCell ⟨pgk, pok, none⟩ (.int .i64 x)) from ⟨k + 1, Hlt.out, by simp, hn1⟩)
      clear hn1
      go_wp2_with fail
      refine ⟨?_, ?_⟩
      · (repeat first | exact ⟨HR.out, rfl⟩ | exact HR.out | apply Exists.intro)
      · simp [intOf]; omega
    · obtain rfl : k = n := by omega
      have HF := Lib.hid hi
      clear hi hlt hk
      go_wp2_with fail
      go_end0
      exact ⟨rfl, HF.out⟩
end
end Go.Proofs.Ytaofjnpmnaohcaa
