/- A server at nothing: told, Up, ArrayUp; Ready. -/
import Derived.Test.YtcphifphidcbaaaGreatSrb
import Derived.BigQuiet
namespace Go.Proofs.YtcphifphidcbaaaGreat
open Go.RowKit Go.ChangeShapes Go.WideShapes
set_option linter.unusedVariables false
set_option linter.unusedSimpArgs false
structure Idle (s : SrvA) : Prop where
  q : s.queue = .slice none 0 0
  c : s.cur = .pointer none
  o : s.out = .slice none 0 0
def TIPost (l : Nat) (hv : Value) (s : SrvA) (w : World) (e : Ending) (w' : World) : Prop :=
  e = .returned (.slice none 0 0) ∧ Box w' l 115 (srvC lc hv s) ∧ Only (Just l) w w'
section
set_option maxHeartbeats 4000000
set_option maxRecDepth 100000
variable {l : Nat} {hv : Value} {s : SrvA} {w : World}
theorem srv_cell (hb : Box w l 115 (srvC lc hv s)) (i : Nat) (hi : i < 60) : w.cell? ⟨l, i, none⟩ = some (srvF lc hv s i) := hb.cellAt (srvC_at lc hv s hi)
theorem adv_idle (hs : Idle s) (hb : Box w l 115 (srvC lc hv s)) :
    Calls Tryz.prog 101 #[.pointer (some ⟨l, 0, none⟩)] w fun e w' => e = .returned (.tuple #[]) ∧ w = w' := by
  have x51 : w.cell? ⟨l, 51, none⟩ = some (.slice none 0 0) := (srv_cell hb 51 (by decide)).trans (by rw [← hs.q]; rfl)
  have x52 : w.cell? ⟨l, 52, none⟩ = some (.pointer none) := (srv_cell hb 52 (by decide)).trans (by rw [← hs.c]; rfl)
  clear hb hs
  go_enter Tryz.func101, Tryz.ntmps101
  go_wp2_with fail
  go_loopw [] (fun wr => wr = w) (fun _ => 0)
  case atStart => rfl
  case round =>
    obtain rfl := hrel
    go_wp2_with fail
    go_end0
    exact ⟨rfl, rfl⟩
theorem told_idle (hs : Idle s) (hb : Box w l 115 (srvC lc hv s)) : Calls Tryz.prog 64 #[.pointer (some ⟨l, 0, none⟩)] w (TIPost l hv s w) := by
  have HA := Lib.hid (adv_idle hs hb)
  have x59 : w.cell? ⟨l, 59, none⟩ = some (.slice none 0 0) := (srv_cell hb 59 (by decide)).trans (by rw [← hs.o]; rfl)
  have f59 : w.frozen? ⟨l, 59, none⟩ = false := hb.free _
  have h2 := hb.store 59 (.slice none 0 0)
  rw [srv_out] at h2
  have HB2 := Lib.hid (show Box (w.setCell ⟨l, 59, none⟩ (.slice none 0 0)) l 115 (srvC lc hv s) from by
    have e : ({ s with out := .slice none 0 0 } : SrvA) = s := by cases s; simp [hs.o]; exact hs.o.symm
    rw [e] at h2
    exact h2)
  clear hb hs h2
  go_enter Tryz.func64, Tryz.ntmps64
  go_wp2_with (go_at_call 101; refine HA.out.mono ?_; rintro e W1 ⟨rfl, rfl⟩)
  go_ret
  exact ⟨rfl, HB2.out, (Only.refl (Just l) w).setCell (p := ⟨l, 59, none⟩) (.inl (show Just l l from rfl)) _⟩
theorem sthere_0 (hb : Box w l 115 (srvC lc hv s)) : Calls Tryz.prog 62 #[.pointer (some ⟨l, 0, none⟩), .int .i64 0] w fun e w' => e = .returned (.bool true) ∧ w = w' := by
  have x0 : w.cell? ⟨l, 0, none⟩ = some (.int .i64 1) := srv_cell hb 0 (by decide)
  clear hb
  go_enter Tryz.func62, Tryz.ntmps62
  go_wp2_with fail
  go_ret
  exact ⟨rfl, rfl⟩
theorem up_idle (hs : Idle s) (hb : Box w l 115 (srvC lc hv s)) : Calls Tryz.prog 26 #[.pointer (some ⟨l, 0, none⟩), .int .i64 0, .int .i64 1] w (TIPost l hv { s with boots := fun b => if b = 0 then 1 else s.boots b } w) := by
  have HT := Lib.hid (sthere_0 hb)
  have x53 : w.cell? ⟨l, 53, none⟩ = some (.int .i64 (s.boots 0)) := srv_cell hb 53 (by decide)
  have f53 : w.frozen? ⟨l, 53, none⟩ = false := hb.free _
  have h2 := hb.store (53 + 0) (.int .i64 1)
  rw [srv_boot lc hv s 0 (by decide) 1] at h2
  have HB2 := Lib.hid h2
  have HI := Lib.hid (show Idle { s with boots := fun b => if b = 0 then 1 else s.boots b } from ⟨hs.q, hs.c, hs.o⟩)
  clear hb hs h2
  go_enter Tryz.func26, Tryz.ntmps26
  go_upto_region 4 with (go_at_call 62; refine HT.out.mono ?_; rintro e W1 ⟨rfl, rfl⟩)
  have HO := Lib.hid ((Only.refl (Just l) w).setCell (p := ⟨l, 53, none⟩) (.inl (show Just l l from rfl)) (.int .i64 1))
  change Code.wp _ _ _ _ (w.setCell ⟨l, 53, none⟩ (.int .i64 1))
  change Hid (Box (w.setCell ⟨l, 53, none⟩ (.int .i64 1)) _ _ _) at HB2
  generalize w.setCell ⟨l, 53, none⟩ (.int .i64 1) = W1 at *
  have HD := Lib.hid (told_idle HI.out HB2.out)
  clear HB2 HI HT x53 f53
  go_wp2_with (go_at_call 64; refine HD.out.mono ?_; rintro e W2 ⟨rfl, hb2, ho2⟩)
  go_ret
  exact ⟨rfl, hb2, HO.out.trans ho2⟩
theorem arrayUp_idle (hs : Idle s) (hb : Box w l 115 (srvC lc hv s)) : Calls Tryz.prog 27 #[.pointer (some ⟨l, 0, none⟩)] w (TIPost l hv { s with up := true } w) := by
  have x57 : w.cell? ⟨l, 57, none⟩ = some (.bool s.up) := srv_cell hb 57 (by decide)
  have f57 : w.frozen? ⟨l, 57, none⟩ = false := hb.free _
  have h2 := hb.store 57 (.bool true)
  rw [srv_up] at h2
  have HB2 := Lib.hid h2
  have HI := Lib.hid (show Idle { s with up := true } from ⟨hs.q, hs.c, hs.o⟩)
  clear hb hs h2
  go_enter Tryz.func27, Tryz.ntmps27
  go_upto_region 4 with fail
  have HO := Lib.hid ((Only.refl (Just l) w).setCell (p := ⟨l, 57, none⟩) (.inl (show Just l l from rfl)) (.bool true))
  change Code.wp _ _ _ _ (w.setCell ⟨l, 57, none⟩ (.bool true))
  generalize w.setCell ⟨l, 57, none⟩ (.bool true) = W1 at *
  have HD := Lib.hid (told_idle HI.out HB2.out)
  clear HB2 HI x57 f57
  go_wp2_with (go_at_call 64; refine HD.out.mono ?_; rintro e W2 ⟨rfl, hb2, ho2⟩)
  go_ret
  exact ⟨rfl, hb2, HO.out.trans ho2⟩
theorem index_one (g o c : Nat) (x y : Int) (w : World) (hne : x ≠ y) (hx : w.cell? ⟨g, o, none⟩ = some (.int .i64 x)) : Calls Tryz.prog 107 #[.slice (some ⟨g, o, none⟩) 1 c, .int .i64 y] w fun e w' => e = .returned (.int .i64 (-1)) ∧ w = w' := by
  have hxy : (y == x) = false := by simp; exact fun e => hne e.symm
  clear hne
  go_enter Tryz.func107, Tryz.ntmps107
  go_wp2_with fail
  go_loopw [8] (fun i wr => ∃ k : Nat, k ≤ 1 ∧ i = .int .i64 k ∧ wr = w) (fun i _ => 1 - (intOf i).toNat)
  case atStart => exact ⟨0, by decide, rfl, rfl⟩
  case round =>
    obtain ⟨k, hk, rfl, rfl⟩ := hrel
    rcases (show k = 0 ∨ k = 1 by omega) with rfl | rfl
    · rw [show ((0 : Nat) : Int) = 0 from rfl]
      go_wp2_with fail
      refine ⟨⟨1, by decide, rfl, ?_⟩, by decide⟩
      first | rfl | trivial
    · rw [show ((1 : Nat) : Int) = 1 from rfl]
      go_wp2_with fail
      go_ret
      exact ⟨rfl, rfl⟩
theorem contains_one (g o c : Nat) (x y : Int) (w : World) (hne : x ≠ y) (hx : w.cell? ⟨g, o, none⟩ = some (.int .i64 x)) : Calls Tryz.prog 70 #[.slice (some ⟨g, o, none⟩) 1 c, .int .i64 y] w fun e w' => e = .returned (.bool false) ∧ w = w' := by
  have HI := Lib.hid (index_one g o c x y w hne hx)
  go_enter Tryz.func70, Tryz.ntmps70
  go_wp2_with (go_at_call 107; refine HI.out.mono ?_; rintro e W1 ⟨rfl, rfl⟩)
  go_ret
  exact ⟨rfl, rfl⟩
theorem ready_yes (hu : s.up = true) (h1 : s.boots 0 = 1) (hb : Box w l 115 (srvC lc hv s)) : Calls Tryz.prog 33 #[.pointer (some ⟨l, 0, none⟩)] w fun e w' => e = .returned (.bool true) ∧ ∃ n, w' = w.drewN n := by
  have x0 : w.cell? ⟨l, 0, none⟩ = some (.int .i64 1) := srv_cell hb 0 (by decide)
  have x53 : w.cell? ⟨l, 53, none⟩ = some (.int .i64 1) := (srv_cell hb 53 (by decide)).trans (by rw [← h1]; rfl)
  have x57 : w.cell? ⟨l, 57, none⟩ = some (.bool true) := (srv_cell hb 57 (by decide)).trans (by rw [← hu]; rfl)
  have HC := Lib.hid (fun w (hx : w.cell? ⟨l, 53, none⟩ = some (.int .i64 1)) => contains_one l 53 4 1 0 w (by decide) hx)
  have X53 := Lib.hid x53
  clear hb hu h1
  go_enter Tryz.func33, Tryz.ntmps33
  go_upto_region 1 with fail
  go_quiet (refine quiet_l (HC.out _ X53.out))
  go_wp2
  go_ret
  exact ⟨rfl, nq, rfl⟩
end
end Go.Proofs.YtcphifphidcbaaaGreat
