/- gradinelaw19.least, wakes; a server that is not there; ServerNil, walked. -/
import Derived.Test.YtcphifphidcbaaaGreatSrh
namespace Go.Proofs.YtcphifphidcbaaaGreat
open Go.RowKit Go.ChangeShapes Go.WideShapes
set_option linter.unusedVariables false
set_option linter.unusedSimpArgs false
section
set_option maxHeartbeats 4000000
set_option maxRecDepth 100000
theorem least19_any (w : World) : Calls Tryz.prog 60 #[] w fun e w' => e = .returned (.agg (cfgCells lc (.slice none 0 0))) ∧ Only Non w w' := by
  have HB := Lib.hid (Box.fresh w 42 #[.int .i64 0, .int .i64 0, .int .i64 0, .int .i64 0, .int .i64 0, .int .i64 0, .int .i64 0, .int .i64 0, .int .i64 0, .int .i64 0, .int .i64 0, .int .i64 0, .int .i64 0, .int .i64 0, .int .i64 0, .int .i64 0, .slice none 0 0])
  have HO := Lib.hid (show Only Non w (w.alloc (.cells #[.int .i64 0, .int .i64 0, .int .i64 0, .int .i64 0, .int .i64 0, .int .i64 0, .int .i64 0, .int .i64 0, .int .i64 0, .int .i64 0, .int .i64 0, .int .i64 0, .int .i64 0, .int .i64 0, .int .i64 0, .int .i64 0, .slice none 0 0] 42)) from (Only.refl Non w).alloc _)
  go_enter Tryz.func60, Tryz.ntmps60
  go_upto_region 1 with fail
  generalize w.alloc (.cells #[.int .i64 0, .int .i64 0, .int .i64 0, .int .i64 0, .int .i64 0, .int .i64 0, .int .i64 0, .int .i64 0, .int .i64 0, .int .i64 0, .int .i64 0, .int .i64 0, .int .i64 0, .int .i64 0, .int .i64 0, .int .i64 0, .slice none 0 0] 42) = W at *
  go_wp2_with (refine wpList_store_row rfl 42 _ _ rfl w.heap.size (cfgCells lc (.slice none 0 0)) rfl rfl 42 _ HB.out (by kernel_rfl) rfl (cfg_one lc none 0 0) ?_)
  (try simp only [Exit.inBlock, Exit.then])
  refine bodyPost_ret (results_cell_row rfl _ _ w.heap.size _ (cfgCells lc (.slice none 0 0)) (0, 0) _ rfl (HB.out.setRow' _) Tryz.underlying42 rfl (by kernel_rfl)) rfl ?_
  exact ⟨rfl, HO.out.setRow' (.inr (Nat.le_refl _)) _⟩
theorem wakes19_any (w : World) : Calls Tryz.prog 24 #[] w fun e w' => e = .returned (.bool true) ∧ Only Non w w' := by
  go_enter Tryz.func24, Tryz.ntmps24
  go_wp2_with fail
  refine (least19_any w).mono ?_
  rintro e W1 ⟨rfl, ho1⟩
  have HO1 := Lib.hid ho1
  clear ho1
  have HN := Lib.hid (srv_new (lc_made 1 (by decide)) W1)
  go_wp2_with fail
  refine HN.out.mono ?_
  rintro e W2 ⟨i, l, cb, mb, d, cs, hvc, A, n, cp, rfl, hl2, hd2, hc2, hk2, hwl, hld, ho2⟩
  have HL2 := Lib.hid hl2
  have HC2 := Lib.hid hc2
  have HK := Lib.hid (show ∀ k, cchBlk (lruK 1) i cb mb lc hvc (fun _ => none) k → k ≠ l from fun k hk => by have := hk2 k hk; omega)
  have HO2 := Lib.hid (HO1.out.trans ho2)
  have HLO := Lib.hid (show w.heap.size ≤ l from by have := HO1.out.size; omega)
  have HUP := Lib.hid (up_idle (s := srv1 cb d) ⟨rfl, rfl, rfl⟩ HL2.out)
  clear hl2 hd2 hc2 hk2 hwl hld ho2 HN
  go_upto_region 5 with (go_at_call 26; refine HUP.out.mono ?_; rintro e W3 ⟨rfl, hl3, ho3⟩)
  have HC3 := Lib.hid (HC2.out.far' ho3 fun k hk e => HK.out k hk e)
  have HAU := Lib.hid (arrayUp_idle ⟨rfl, rfl, rfl⟩ hl3)
  have HO3 := Lib.hid (HO2.out.trans' ho3 fun k hk => .inr (by have := HLO.out; have h1 : k = l := hk; omega))
  clear hl3 ho3 HUP HL2
  go_upto_region 6 with (go_at_call 27; refine HAU.out.mono ?_; rintro e W4 ⟨rfl, hl4, ho4⟩)
  have HC4 := Lib.hid (HC3.out.far' ho4 fun k hk e => HK.out k hk e)
  have HO4 := Lib.hid (HO3.out.trans' ho4 fun k hk => .inr (by have := HLO.out; have h1 : k = l := hk; omega))
  have HH := Lib.hid (hear_read HC4.out HK.out rfl rfl rfl rfl rfl rfl hl4)
  clear hl4 ho4 HAU HC3 HC2 HO2 HO3
  go_upto_region 7 with (go_at_call 25; refine HH.out.mono ?_; rintro e W5 ⟨tb, q, rfl, hc5, ho5⟩)
  have HO5 := Lib.hid (HO4.out.trans' ho5 fun k hk => .inr (by have := HLO.out; have h1 : k = l := hk; omega))
  have t0 : W5.cell? ⟨tb, 0, none⟩ = some (.int .i64 (-2)) := hc5 0 _ rfl
  have t1 : W5.cell? ⟨tb, 1, none⟩ = some (.int .i64 8) := hc5 1 _ rfl
  have t6 : W5.cell? ⟨tb, 6, none⟩ = some (.int .i64 1) := hc5 6 _ rfl
  clear hc5 ho5
  go_wp2_with fail
  go_ret
  exact ⟨rfl, HO5.out⟩
theorem nils_hear (f : Int) (m : MsgA) (A : Option Addr) (n c : Nat) (w : World) : Calls Tryz.prog 25 #[.pointer none, .int .i64 f, .agg (msgC m (.slice A n c))] w fun e w' => e = .returned (.slice none 0 0) ∧ Only Non w w' := by
  have HO := Lib.hid ((Only.refl Non w).alloc (.cells (msgC m (.slice A n c)) 25))
  go_enter Tryz.func25, Tryz.ntmps25
  go_upto_region 2 with fail
  generalize w.alloc (.cells (msgC m (.slice A n c)) 25) = W1 at *
  go_wp2_with fail
  go_ret
  exact ⟨rfl, HO.out⟩
theorem nils_there (c : Int) (w : World) : Calls Tryz.prog 62 #[.pointer none, .int .i64 c] w fun e w' => e = .returned (.bool false) ∧ w = w' := by
  go_enter Tryz.func62, Tryz.ntmps62
  go_wp2_with fail
  go_ret
  exact ⟨rfl, rfl⟩
theorem nils_up (c b : Int) (w : World) : Calls Tryz.prog 26 #[.pointer none, .int .i64 c, .int .i64 b] w fun e w' => e = .returned (.slice none 0 0) ∧ w = w' := by
  go_enter Tryz.func26, Tryz.ntmps26
  go_wp2_with (go_at_call 62; refine (nils_there c _).mono ?_; rintro e W1 ⟨rfl, rfl⟩)
  go_ret
  exact ⟨rfl, rfl⟩
theorem nils_arrayUp (w : World) : Calls Tryz.prog 27 #[.pointer none] w fun e w' => e = .returned (.slice none 0 0) ∧ w = w' := by
  go_enter Tryz.func27, Tryz.ntmps27
  go_wp2_with fail
  go_ret
  exact ⟨rfl, rfl⟩
theorem nils_gone (c : Int) (w : World) : Calls Tryz.prog 28 #[.pointer none, .int .i64 c] w fun e w' => e = .returned (.slice none 0 0) ∧ Only Non w w' := by
  have HO := Lib.hid ((Only.refl Non w).alloc (.cells #[.int .i64 c] 3))
  go_enter Tryz.func28, Tryz.ntmps28
  have HB := Lib.hid (Box.fresh w 3 #[.int .i64 c])
  go_upto_region 1 with fail
  generalize w.alloc (.cells #[.int .i64 c] 3) = W1 at *
  generalize w.heap.size = mb at *
  have z : W1.cell? ⟨mb, 0, none⟩ = some (.int .i64 c) := HB.out.cellAt rfl
  go_wp2_with (go_at_call 62; refine (nils_there c _).mono ?_; rintro e W2 ⟨rfl, rfl⟩)
  go_ret
  exact ⟨rfl, HO.out⟩
theorem nils_blocks (w : World) : Calls Tryz.prog 29 #[.pointer none] w fun e w' => e = .returned (.slice none 0 0) ∧ w = w' := by
  go_enter Tryz.func29, Tryz.ntmps29
  go_wp2_with fail
  go_ret
  exact ⟨rfl, rfl⟩
theorem nils_sharers (b : Int) (w : World) : Calls Tryz.prog 30 #[.pointer none, .int .i64 b] w fun e w' => e = .returned (.slice none 0 0) ∧ w = w' := by
  go_enter Tryz.func30, Tryz.ntmps30
  go_wp2_with fail
  go_ret
  exact ⟨rfl, rfl⟩
theorem nils_queue (w : World) : Calls Tryz.prog 31 #[.pointer none] w fun e w' => e = .returned (.int .i64 0) ∧ w = w' := by
  go_enter Tryz.func31, Tryz.ntmps31
  go_wp2_with fail
  go_ret
  exact ⟨rfl, rfl⟩
theorem nils_busy (w : World) : Calls Tryz.prog 32 #[.pointer none] w fun e w' => e = .returned (.bool false) ∧ w = w' := by
  go_enter Tryz.func32, Tryz.ntmps32
  go_wp2_with fail
  go_ret
  exact ⟨rfl, rfl⟩
theorem nils_ready (w : World) : Calls Tryz.prog 33 #[.pointer none] w fun e w' => e = .returned (.bool false) ∧ ∃ n, w' = w.drewN n := by
  go_enter Tryz.func33, Tryz.ntmps33
  have hd : decide True = true := by decide
  go_upto_region 1 with fail
  go_quiet (fail)
  go_wp2
  go_ret
  exact ⟨rfl, nq, rfl⟩
theorem nils_reset (w : World) : Calls Tryz.prog 34 #[.pointer none] w fun e w' => e = .returned (.bool false) ∧ w = w' := by
  go_enter Tryz.func34, Tryz.ntmps34
  go_wp2_with fail
  go_ret
  exact ⟨rfl, rfl⟩
theorem serverNil_walk (m : MsgA) (A : Option Addr) (len c : Nat) (n : Int) (w : World) : Calls Tryz.prog 5 #[.agg (msgC m (.slice A len c)), .int .i64 n] w fun e w' => e = .returned (.bool true) ∧ Only Non w w' := by
  have HB := Lib.hid (Box.fresh w 25 (msgC m (.slice A len c)))
  have HO := Lib.hid ((Only.refl Non w).alloc (.cells (msgC m (.slice A len c)) 25))
  go_enter Tryz.func5, Tryz.ntmps5
  go_upto_region 1 with fail
  change Code.wp _ _ _ _ (w.alloc (.cells (msgC m (.slice A len c)) 25))
  generalize w.alloc (.cells (msgC m (.slice A len c)) 25) = W1 at *
  generalize w.heap.size = fb at *
  go_wp2_with fail
  refine (wakes19_any W1).mono ?_
  rintro e W2 ⟨rfl, ho2⟩
  have HB2 := Lib.hid (ho2.box HB.out id)
  have HO2 := Lib.hid (HO.out.trans ho2)
  clear ho2 HB HO
  go_wp2_with (first | (refine wpList_load_row rfl 25 _ rfl fb rfl 25 (msgC m (.slice A len c)) (0, 0) _ HB2.out Tryz.underlying25 rfl (by kernel_rfl) ?_) | (go_at_call 25; refine (nils_hear n m A len c _).mono ?_; rintro e W3 ⟨rfl, ho3⟩) | (go_at_call 26; refine (nils_up n 1 _).mono ?_; rintro e W4 ⟨rfl, rfl⟩) | (go_at_call 27; refine (nils_arrayUp _).mono ?_; rintro e W4 ⟨rfl, rfl⟩) | (go_at_call 28; refine (nils_gone n _).mono ?_; rintro e W4 ⟨rfl, ho4⟩) | (go_at_call 29; refine (nils_blocks _).mono ?_; rintro e W5 ⟨rfl, rfl⟩) | (go_at_call 30; refine (nils_sharers n _).mono ?_; rintro e W5 ⟨rfl, rfl⟩) | (go_at_call 31; refine (nils_queue _).mono ?_; rintro e W5 ⟨rfl, rfl⟩) | (go_at_call 32; refine (nils_busy _).mono ?_; rintro e W5 ⟨rfl, rfl⟩) | (go_at_call 33; refine (nils_ready _).mono ?_; rintro e W5 ⟨rfl, q5, rfl⟩) | (go_at_call 34; refine (nils_reset _).mono ?_; rintro e W6 ⟨rfl, rfl⟩))
  go_ret
  exact ⟨rfl, ((HO2.out.trans ho3).trans ho4).drewN _⟩
end
end Go.Proofs.YtcphifphidcbaaaGreat
