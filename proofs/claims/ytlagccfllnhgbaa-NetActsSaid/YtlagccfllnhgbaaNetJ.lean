/- An act on a net. -/
import Derived.Test.YtlagccfllnhgbaaNetI
namespace Go.Proofs.Ytlagccfllnhgbaa
open Go.RowKit
set_option linter.unusedVariables false
set_option linter.unusedSimpArgs false
section
set_option maxHeartbeats 2000000
def actV (kind way i k : Int) (L : Value) : Value := .agg #[.int .i64 kind, .int .i64 way, .int .i64 i, .int .i64 k, L]
def boxed (w : World) (kind way i k : Int) (A : Option Addr) (n c : Nat) : World := w.alloc (.cells #[.int .i64 kind, .int .i64 way, .int .i64 i, .int .i64 k, .slice A n c] 39)
theorem ndo_0 (p : Option Addr) (way i k : Int) (A : Option Addr) (n cp : Nat) (w : World) (R : Int → World → Prop) 
    (h : Calls Try.prog 14 #[.pointer p, .int .i64 way, .slice A n cp] (boxed w 0 way i k A n cp) fun e w' => ∃ s, e = .returned (.int .i64 s) ∧ R s w') :
    Calls Try.prog 21 #[.pointer p, actV 0 way i k (.slice A n cp)] w fun e w' => ∃ s, e = .returned (.tuple #[.int .i64 s, .slice none 0 0, .int .i64 0]) ∧ R s w' := by
  unfold boxed at h
  have H := Lib.hid h; clear h
  unfold actV
  go_enter Try.func21, Try.ntmps21
  go_wp2_with fail
  refine H.out.mono ?_
  rintro e w' ⟨s, rfl, hR⟩
  go_wp2_with fail
  go_ret3
  exact ⟨s, rfl, hR⟩
theorem ndo_1 (p : Option Addr) (way i k : Int) (A : Option Addr) (n cp : Nat) (w : World) (R : Value → Int → World → Prop) 
    (h : Calls Try.prog 15 #[.pointer p, .int .i64 way, .int .i64 i] (boxed w 1 way i k A n cp) fun e w' => ∃ v x, e = .returned (.tuple #[v, .int .i64 x]) ∧ R v x w') :
    Calls Try.prog 21 #[.pointer p, actV 1 way i k (.slice A n cp)] w fun e w' => ∃ v x, e = .returned (.tuple #[.int .i64 0, v, .int .i64 x]) ∧ R v x w' := by
  unfold boxed at h
  have H := Lib.hid h; clear h
  unfold actV
  go_enter Try.func21, Try.ntmps21
  go_wp2_with fail
  refine H.out.mono ?_
  rintro e w' ⟨v, x, rfl, hR⟩
  go_wp2_with fail
  go_ret3
  exact ⟨v, x, rfl, hR⟩
theorem ndo_2 (p : Option Addr) (way i k : Int) (A : Option Addr) (n cp : Nat) (w : World) (R : Int → World → Prop) 
    (h : Calls Try.prog 22 #[.pointer p, .int .i64 way, .int .i64 i] (boxed w 2 way i k A n cp) fun e w' => ∃ x, e = .returned (.int .i64 x) ∧ R x w') :
    Calls Try.prog 21 #[.pointer p, actV 2 way i k (.slice A n cp)] w fun e w' => ∃ x, e = .returned (.tuple #[.int .i64 0, .slice none 0 0, .int .i64 x]) ∧ R x w' := by
  unfold boxed at h
  have H := Lib.hid h; clear h
  unfold actV
  go_enter Try.func21, Try.ntmps21
  go_wp2_with fail
  refine H.out.mono ?_
  rintro e w' ⟨x, rfl, hR⟩
  go_wp2_with fail
  go_ret3
  exact ⟨x, rfl, hR⟩
theorem ndo_3 (p : Option Addr) (way i k : Int) (A : Option Addr) (n cp : Nat) (w : World) (R : Int → World → Prop) 
    (h : Calls Try.prog 44 #[.pointer p, .int .i64 way, .int .i64 i] (boxed w 3 way i k A n cp) fun e w' => ∃ x, e = .returned (.int .i64 x) ∧ R x w') :
    Calls Try.prog 21 #[.pointer p, actV 3 way i k (.slice A n cp)] w fun e w' => ∃ x, e = .returned (.tuple #[.int .i64 0, .slice none 0 0, .int .i64 x]) ∧ R x w' := by
  unfold boxed at h
  have H := Lib.hid h; clear h
  unfold actV
  go_enter Try.func21, Try.ntmps21
  go_wp2_with fail
  refine H.out.mono ?_
  rintro e w' ⟨x, rfl, hR⟩
  go_wp2_with fail
  go_ret3
  exact ⟨x, rfl, hR⟩
theorem ndo_4 (p : Option Addr) (way i k : Int) (A : Option Addr) (n cp : Nat) (w : World) (R : Int → World → Prop) 
    (h : Calls Try.prog 18 #[.pointer p, .int .i64 way, .int .i64 i, .int .i64 k] (boxed w 4 way i k A n cp) fun e w' => ∃ x, e = .returned (.int .i64 x) ∧ R x w') :
    Calls Try.prog 21 #[.pointer p, actV 4 way i k (.slice A n cp)] w fun e w' => ∃ x, e = .returned (.tuple #[.int .i64 0, .slice none 0 0, .int .i64 x]) ∧ R x w' := by
  unfold boxed at h
  have H := Lib.hid h; clear h
  unfold actV
  go_enter Try.func21, Try.ntmps21
  go_wp2_with fail
  refine H.out.mono ?_
  rintro e w' ⟨x, rfl, hR⟩
  go_wp2_with fail
  go_ret3
  exact ⟨x, rfl, hR⟩
theorem ndo_5 (p : Option Addr) (kind way i k : Int) (A : Option Addr) (n cp : Nat) (w : World) (R : World → Prop) (hk : kind < 0 ∨ 4 < kind) 
    (h : Calls Try.prog 45 #[.pointer p, .int .i64 way] (boxed w kind way i k A n cp) fun e w' => e = .returned (.tuple #[]) ∧ R  w') :
    Calls Try.prog 21 #[.pointer p, actV kind way i k (.slice A n cp)] w fun e w' => e = .returned (.tuple #[.int .i64 0, .slice none 0 0, .int .i64 0]) ∧ R  w' := by
  unfold boxed at h
  have H := Lib.hid h; clear h
  unfold actV
  have e0 : (kind == 0) = false := by simp; omega
  have e1 : (kind == 1) = false := by simp; omega
  have e2 : (kind == 2) = false := by simp; omega
  have e3 : (kind == 3) = false := by simp; omega
  have e4 : (kind == 4) = false := by simp; omega
  clear hk
  go_enter Try.func21, Try.ntmps21
  go_wp2_with fail
  refine H.out.mono ?_
  rintro e w' ⟨rfl, hR⟩
  go_wp2_with fail
  go_ret3
  exact ⟨rfl, hR⟩
end
end Go.Proofs.Ytlagccfllnhgbaa
