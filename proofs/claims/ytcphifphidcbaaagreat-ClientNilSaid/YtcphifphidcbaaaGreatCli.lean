/- A client that is not there; ClientNil, walked. Printed by cnil.py. -/
import Derived.Test.YtcphifphidcbaaaGreatClw
import Derived.Test.YtcphifphidcbaaaGreatMsgC
namespace Go.Proofs.YtcphifphidcbaaaGreat
open Go.RowKit Go.ChangeShapes Go.WideShapes
set_option linter.unusedVariables false
set_option linter.unusedSimpArgs false
section
set_option maxHeartbeats 4000000
set_option maxRecDepth 100000
theorem nilc_gone (w : World) : Calls Tryz.prog 7 #[.pointer none] w fun e w' => e = .returned (.tuple #[]) ∧ w = w' := by
  go_enter Tryz.func7, Tryz.ntmps7
  go_wp2_with fail
  go_end0
  exact ⟨rfl, rfl⟩
theorem nilc_wrong (i b : Int) (wr : Bool) (A : Option Addr) (n c : Nat) (w : World) : Calls Tryz.prog 37 #[.pointer none, .int .i64 i, .bool wr, .int .i64 b, .slice A n c] w fun e w' => e = .returned (.int .i64 7) ∧ w = w' := by
  go_enter Tryz.func37, Tryz.ntmps37
  go_wp2_with fail
  go_ret
  exact ⟨rfl, rfl⟩
theorem nilc_begin (i b : Int) (wr : Bool) (A : Option Addr) (n c : Nat) (w : World) : Calls Tryz.prog 8 #[.pointer none, .int .i64 i, .bool wr, .int .i64 b, .slice A n c] w fun e w' => e = .returned (.tuple #[.int .i64 0, .slice none 0 0, .int .i64 7]) ∧ w = w' := by
  go_enter Tryz.func8, Tryz.ntmps8
  go_wp2_with (go_at_call 37; refine (nilc_wrong i b wr A n c _).mono ?_; rintro e W1 ⟨rfl, rfl⟩)
  go_ret3
  exact ⟨rfl, rfl⟩
theorem nilc_hear (m : MsgA) (A : Option Addr) (n c : Nat) (w : World) : Calls Tryz.prog 9 #[.pointer none, .agg (msgC m (.slice A n c))] w fun e w' => e = .returned (.slice none 0 0) ∧ Only Non w w' := by
  have HO := Lib.hid ((Only.refl Non w).alloc (.cells (msgC m (.slice A n c)) 25))
  go_enter Tryz.func9, Tryz.ntmps9
  go_upto_region 1 with fail
  generalize w.alloc (.cells (msgC m (.slice A n c)) 25) = W1 at *
  go_wp2_with fail
  go_ret
  exact ⟨rfl, HO.out⟩
theorem nilc_up (w : World) : Calls Tryz.prog 10 #[.pointer none] w fun e w' => e = .returned (.slice none 0 0) ∧ w = w' := by
  go_enter Tryz.func10, Tryz.ntmps10
  go_wp2_with fail
  go_ret
  exact ⟨rfl, rfl⟩
theorem nilc_ended (w : World) : Calls Tryz.prog 11 #[.pointer none] w fun e w' => e = .returned (.slice none 0 0) ∧ w = w' := by
  go_enter Tryz.func11, Tryz.ntmps11
  go_wp2_with fail
  go_ret
  exact ⟨rfl, rfl⟩
theorem nilc_blocks (w : World) : Calls Tryz.prog 12 #[.pointer none] w fun e w' => e = .returned (.slice none 0 0) ∧ w = w' := by
  go_enter Tryz.func12, Tryz.ntmps12
  go_wp2_with fail
  go_ret
  exact ⟨rfl, rfl⟩
theorem nilc_free (i : Int) (w : World) : Calls Tryz.prog 13 #[.pointer none, .int .i64 i] w fun e w' => e = .returned (.bool false) ∧ w = w' := by
  go_enter Tryz.func13, Tryz.ntmps13
  go_wp2_with fail
  go_ret
  exact ⟨rfl, rfl⟩
theorem nilc_renew (c : CfgA) (A : Option Addr) (n cp : Nat) (w : World) : Calls Tryz.prog 14 #[.pointer none, .agg (cfgCells c (.slice A n cp))] w fun e w' => e = .returned (.bool false) ∧ Only Non w w' := by
  have HO := Lib.hid ((Only.refl Non w).alloc (.cells (cfgCells c (.slice A n cp)) 42))
  go_enter Tryz.func14, Tryz.ntmps14
  go_upto_region 1 with fail
  generalize w.alloc (.cells (cfgCells c (.slice A n cp)) 42) = W1 at *
  refine wp_region_tail (S := (fun w' : World => w' = W1.drew)) 18 (by kernel_rfl) (by kernel_rfl) ?_ ?_
  · rfl
  intro hSS
  refine wpHd_take (i := 0) (v := ?_) (by kernel_rfl) rfl (by kernel_rfl) (fun _ _ _ h => h) (Or.inl ⟨by rfl, ?_⟩) (by assumption) ?_
  rotate_left
  · intro w hSw; (try dsimp only at hSw); go_simp; (try with_reducible rfl)
  try simp only [Act.put, List.getElem_toArray, List.getElem_cons_succ, List.getElem_cons_zero, List.setIfInBounds_toArray, List.set_cons_zero, List.set_cons_succ]
  refine wpHd_take (i := 1) (v := ?_) (by kernel_rfl) rfl (by kernel_rfl) (fun _ _ _ h => h) (Or.inl ⟨by rfl, ?_⟩) (by assumption) ?_
  rotate_left
  · intro w hSw; (try dsimp only at hSw); go_simp; (try with_reducible rfl)
  try simp only [Act.put, List.getElem_toArray, List.getElem_cons_succ, List.getElem_cons_zero, List.setIfInBounds_toArray, List.set_cons_zero, List.set_cons_succ]
  refine wpHd_take (i := 2) (v := ?_) (by kernel_rfl) rfl (by kernel_rfl) (fun _ _ _ h => h) (Or.inl ⟨by rfl, ?_⟩) (by assumption) ?_
  rotate_left
  · intro w hSw; (try dsimp only at hSw); go_simp; (try with_reducible rfl)
  try simp only [Act.put, List.getElem_toArray, List.getElem_cons_succ, List.getElem_cons_zero, List.setIfInBounds_toArray, List.set_cons_zero, List.set_cons_succ]
  refine wpHd_take (i := 3) (v := undef) (by kernel_rfl) rfl (by kernel_rfl) (fun _ _ _ h => h) (Or.inr ⟨by rfl, rfl⟩) (by assumption) ?_
  try simp only [Act.put, List.getElem_toArray, List.getElem_cons_succ, List.getElem_cons_zero, List.setIfInBounds_toArray, List.set_cons_zero, List.set_cons_succ]
  refine wpHd_take (i := 4) (v := undef) (by kernel_rfl) rfl (by kernel_rfl) (fun _ _ _ h => h) (Or.inr ⟨by rfl, rfl⟩) (by assumption) ?_
  try simp only [Act.put, List.getElem_toArray, List.getElem_cons_succ, List.getElem_cons_zero, List.setIfInBounds_toArray, List.set_cons_zero, List.set_cons_succ]
  refine wpHd_take (i := 5) (v := undef) (by kernel_rfl) rfl (by kernel_rfl) (fun _ _ _ h => h) (Or.inr ⟨by rfl, rfl⟩) (by assumption) ?_
  try simp only [Act.put, List.getElem_toArray, List.getElem_cons_succ, List.getElem_cons_zero, List.setIfInBounds_toArray, List.set_cons_zero, List.set_cons_succ]
  refine wpHd_take (i := 6) (v := undef) (by kernel_rfl) rfl (by kernel_rfl) (fun _ _ _ h => h) (Or.inr ⟨by rfl, rfl⟩) (by assumption) ?_
  try simp only [Act.put, List.getElem_toArray, List.getElem_cons_succ, List.getElem_cons_zero, List.setIfInBounds_toArray, List.set_cons_zero, List.set_cons_succ]
  refine wpHd_take (i := 7) (v := undef) (by kernel_rfl) rfl (by kernel_rfl) (fun _ _ _ h => h) (Or.inr ⟨by rfl, rfl⟩) (by assumption) ?_
  try simp only [Act.put, List.getElem_toArray, List.getElem_cons_succ, List.getElem_cons_zero, List.setIfInBounds_toArray, List.set_cons_zero, List.set_cons_succ]
  refine wpHd_take (i := 8) (v := undef) (by kernel_rfl) rfl (by kernel_rfl) (fun _ _ _ h => h) (Or.inr ⟨by rfl, rfl⟩) (by assumption) ?_
  try simp only [Act.put, List.getElem_toArray, List.getElem_cons_succ, List.getElem_cons_zero, List.setIfInBounds_toArray, List.set_cons_zero, List.set_cons_succ]
  refine wpHd_take (i := 9) (v := undef) (by kernel_rfl) rfl (by kernel_rfl) (fun _ _ _ h => h) (Or.inr ⟨by rfl, rfl⟩) (by assumption) ?_
  try simp only [Act.put, List.getElem_toArray, List.getElem_cons_succ, List.getElem_cons_zero, List.setIfInBounds_toArray, List.set_cons_zero, List.set_cons_succ]
  refine wpHd_take (i := 10) (v := undef) (by kernel_rfl) rfl (by kernel_rfl) (fun _ _ _ h => h) (Or.inr ⟨by rfl, rfl⟩) (by assumption) ?_
  try simp only [Act.put, List.getElem_toArray, List.getElem_cons_succ, List.getElem_cons_zero, List.setIfInBounds_toArray, List.set_cons_zero, List.set_cons_succ]
  refine wpHd_take (i := 11) (v := ?_) (by kernel_rfl) rfl (by kernel_rfl) (fun _ _ _ h => h) (Or.inl ⟨by rfl, ?_⟩) (by assumption) ?_
  rotate_left
  · intro w hSw; (try dsimp only at hSw); go_simp; (try with_reducible rfl)
  try simp only [Act.put, List.getElem_toArray, List.getElem_cons_succ, List.getElem_cons_zero, List.setIfInBounds_toArray, List.set_cons_zero, List.set_cons_succ]
  refine wpHd_take (i := 12) (v := ?_) (by kernel_rfl) rfl (by kernel_rfl) (fun _ _ _ h => h) (Or.inl ⟨by rfl, ?_⟩) (by assumption) ?_
  rotate_left
  · intro w hSw; (try dsimp only at hSw); go_simp; (try with_reducible rfl)
  try simp only [Act.put, List.getElem_toArray, List.getElem_cons_succ, List.getElem_cons_zero, List.setIfInBounds_toArray, List.set_cons_zero, List.set_cons_succ]
  refine wpHd_take (i := 13) (v := undef) (by kernel_rfl) rfl (by kernel_rfl) (fun _ _ _ h => h) (Or.inr ⟨by rfl, rfl⟩) (by assumption) ?_
  try simp only [Act.put, List.getElem_toArray, List.getElem_cons_succ, List.getElem_cons_zero, List.setIfInBounds_toArray, List.set_cons_zero, List.set_cons_succ]
  refine wpHd_take (i := 14) (v := undef) (by kernel_rfl) rfl (by kernel_rfl) (fun _ _ _ h => h) (Or.inr ⟨by rfl, rfl⟩) (by assumption) ?_
  try simp only [Act.put, List.getElem_toArray, List.getElem_cons_succ, List.getElem_cons_zero, List.setIfInBounds_toArray, List.set_cons_zero, List.set_cons_succ]
  refine wpHd_take (i := 15) (v := undef) (by kernel_rfl) rfl (by kernel_rfl) (fun _ _ _ h => h) (Or.inr ⟨by rfl, rfl⟩) (by assumption) ?_
  try simp only [Act.put, List.getElem_toArray, List.getElem_cons_succ, List.getElem_cons_zero, List.setIfInBounds_toArray, List.set_cons_zero, List.set_cons_succ]
  refine wpHd_take (i := 16) (v := undef) (by kernel_rfl) rfl (by kernel_rfl) (fun _ _ _ h => h) (Or.inr ⟨by rfl, rfl⟩) (by assumption) ?_
  try simp only [Act.put, List.getElem_toArray, List.getElem_cons_succ, List.getElem_cons_zero, List.setIfInBounds_toArray, List.set_cons_zero, List.set_cons_succ]
  refine wpHd_one (i := 17) rfl (by kernel_rfl) (fun K hK => ?_)
  rw [if_neg (by first | (simp [Region.wanted, yielded]; done) | (simp [Region.wanted, yielded]; intro h; cases h))]
  refine hK.out _ _ ?_ (fun hSS => ?_)
  · rfl
  clear hK
  try simp only [Act.put, List.getElem_toArray, List.getElem_cons_succ, List.getElem_cons_zero, List.setIfInBounds_toArray, List.set_cons_zero, List.set_cons_succ]
  refine wpHd_end (by kernel_rfl) ?_
  clear hSS
  go_wp2
  go_ret
  exact ⟨rfl, HO.out.drew⟩
theorem clientNil_walk (m : MsgA) (A : Option Addr) (len c : Nat) (n : Int) (w : World) : Calls Tryz.prog 3 #[.agg (msgC m (.slice A len c)), .int .i64 n] w fun e w' => e = .returned (.bool true) ∧ Only Non w w' := by
  have HB := Lib.hid (Box.fresh w 25 (msgC m (.slice A len c)))
  have HO := Lib.hid ((Only.refl Non w).alloc (.cells (msgC m (.slice A len c)) 25))
  go_enter Tryz.func3, Tryz.ntmps3
  go_upto_region 1 with fail
  change Code.wp _ _ _ _ (w.alloc (.cells (msgC m (.slice A len c)) 25))
  generalize w.alloc (.cells (msgC m (.slice A len c)) 25) = W1 at *
  generalize w.heap.size = fb at *
  go_wp2_with fail
  refine (wakes_any W1).mono ?_
  rintro e W2 ⟨rfl, ho2⟩
  have HB2 := Lib.hid (ho2.box HB.out id)
  have HO2 := Lib.hid (HO.out.trans ho2)
  clear ho2 HB HO
  have k10 : W2.cell? ⟨fb, 10, none⟩ = some (.slice A len c) := HB2.out.cellAt rfl
  go_upto_region 6 with (first | (go_at_call 7; refine (nilc_gone _).mono ?_; rintro e W3 ⟨rfl, rfl⟩) | (go_at_call 8; refine (nilc_begin n n true A len c _).mono ?_; rintro e W3 ⟨rfl, rfl⟩))
  have k0 : W2.cell? ⟨fb, 0, none⟩ = some (.int .i64 (m.f 0)) := HB2.out.cellAt rfl
  have k1 : W2.cell? ⟨fb, 1, none⟩ = some (.int .i64 (m.f 1)) := HB2.out.cellAt rfl
  have k2 : W2.cell? ⟨fb, 2, none⟩ = some (.int .i64 (m.f 2)) := HB2.out.cellAt rfl
  have k3 : W2.cell? ⟨fb, 3, none⟩ = some (.int .i64 (m.f 3)) := HB2.out.cellAt rfl
  have k4 : W2.cell? ⟨fb, 4, none⟩ = some (.int .i64 (m.f 4)) := HB2.out.cellAt rfl
  have k5 : W2.cell? ⟨fb, 5, none⟩ = some (.int .i64 (m.f 5)) := HB2.out.cellAt rfl
  have k6 : W2.cell? ⟨fb, 6, none⟩ = some (.int .i64 (m.f 6)) := HB2.out.cellAt rfl
  have k7 : W2.cell? ⟨fb, 7, none⟩ = some (.int .i64 (m.f 7)) := HB2.out.cellAt rfl
  have k8 : W2.cell? ⟨fb, 8, none⟩ = some (.int .i64 (m.f 8)) := HB2.out.cellAt rfl
  have k9 : W2.cell? ⟨fb, 9, none⟩ = some (.bool m.g) := HB2.out.cellAt rfl
  have HH := fun w => nilc_hear m A len c w
  unfold msgC at HH
  have HH := Lib.hid HH
  go_wp2_with (first | (go_at_call 9; refine (HH.out _).mono ?_; rintro e W3 ⟨rfl, ho3⟩) | (go_at_call 10; refine (nilc_up _).mono ?_; rintro e W3 ⟨rfl, rfl⟩) | (go_at_call 11; refine (nilc_ended _).mono ?_; rintro e W3 ⟨rfl, rfl⟩) | (go_at_call 12; refine (nilc_blocks _).mono ?_; rintro e W3 ⟨rfl, rfl⟩) | (go_at_call 13; refine (nilc_free n _).mono ?_; rintro e W3 ⟨rfl, rfl⟩) | (go_at_call 15; refine (least_any _).mono ?_; rintro e W4 ⟨rfl, ho4⟩) | (go_at_call 14; refine (nilc_renew lc none 0 0 _).mono ?_; rintro e W5 ⟨rfl, ho5⟩))
  go_ret
  exact ⟨rfl, ((HO2.out.trans ho3).trans ho4).trans ho5⟩
end
end Go.Proofs.YtcphifphidcbaaaGreat
