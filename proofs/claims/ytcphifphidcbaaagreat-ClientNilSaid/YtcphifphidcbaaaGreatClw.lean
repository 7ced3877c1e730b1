/- gradinelaw20.least, wakes; ClientNil, walked. -/
import Derived.Test.YtcphifphidcbaaaGreatClb
namespace Go.Proofs.YtcphifphidcbaaaGreat
open Go.RowKit Go.ChangeShapes Go.WideShapes
set_option linter.unusedVariables false
set_option linter.unusedSimpArgs false
section
set_option maxHeartbeats 4000000
set_option maxRecDepth 100000
theorem least_any (w : World) : Calls Tryz.prog 15 #[] w fun e w' => e = .returned (.agg (cfgCells lc (.slice none 0 0))) ∧ Only Non w w' := by
  have HB := Lib.hid (Box.fresh w 42 #[.int .i64 0, .int .i64 0, .int .i64 0, .int .i64 0, .int .i64 0, .int .i64 0, .int .i64 0, .int .i64 0, .int .i64 0, .int .i64 0, .int .i64 0, .int .i64 0, .int .i64 0, .int .i64 0, .int .i64 0, .int .i64 0, .slice none 0 0])
  have HO := Lib.hid (show Only Non w (w.alloc (.cells #[.int .i64 0, .int .i64 0, .int .i64 0, .int .i64 0, .int .i64 0, .int .i64 0, .int .i64 0, .int .i64 0, .int .i64 0, .int .i64 0, .int .i64 0, .int .i64 0, .int .i64 0, .int .i64 0, .int .i64 0, .int .i64 0, .slice none 0 0] 42)) from (Only.refl Non w).alloc _)
  go_enter Tryz.func15, Tryz.ntmps15
  go_upto_region 1 with fail
  generalize w.alloc (.cells #[.int .i64 0, .int .i64 0, .int .i64 0, .int .i64 0, .int .i64 0, .int .i64 0, .int .i64 0, .int .i64 0, .int .i64 0, .int .i64 0, .int .i64 0, .int .i64 0, .int .i64 0, .int .i64 0, .int .i64 0, .int .i64 0, .slice none 0 0] 42) = W at *
  go_wp2_with (refine wpList_store_row rfl 42 _ _ rfl w.heap.size (cfgCells lc (.slice none 0 0)) rfl rfl 42 _ HB.out (by kernel_rfl) rfl (cfg_one lc none 0 0) ?_)
  (try simp only [Exit.inBlock, Exit.then])
  refine bodyPost_ret (results_cell_row rfl _ _ w.heap.size _ (cfgCells lc (.slice none 0 0)) (0, 0) _ rfl (HB.out.setRow' _) Tryz.underlying42 rfl (by kernel_rfl)) rfl ?_
  exact ⟨rfl, HO.out.setRow' (.inr (Nat.le_refl _)) _⟩
theorem wakes_any (w : World) : Calls Tryz.prog 6 #[] w fun e w' => e = .returned (.bool true) ∧ Only Non w w' := by
  go_enter Tryz.func6, Tryz.ntmps6
  go_wp2_with fail
  refine (least_any w).mono ?_
  rintro e W1 ⟨rfl, ho1⟩
  have HO1 := Lib.hid ho1
  clear ho1
  have HN := Lib.hid (cli_new (lc_made 0 (by decide)) lc_ok W1 (A := none) (n0 := 0) (cp := 0) ⟨rfl, Nat.le_refl _, Nat.zero_le _, fun i hi => absurd hi (Nat.not_lt_zero _)⟩)
  go_wp2_with fail
  refine HN.out.mono ?_
  rintro e W2 ⟨i, l, cb, mb, u, g, eb, sb, hv, hvc, rfl, hl2, hs2, hc2, _, _, ⟨A, k, cp, rfl, hh2⟩, hF2, hcb2, hcs2, hmb2, hms2, hsl, _, _, _, ho2⟩
  have hcs := fun k hk => hc2.blkLt (k := k) hk
  have HL2 := Lib.hid (show Box W2 l 65 (cliCells lc (.slice A k cp) cb (.pointer (some ⟨u, 0, none⟩)) (.slice (some ⟨sb, 0, none⟩) 1 1) 0 false (.slice none 0 0)) from hl2)
  have HS2 := Lib.hid (show Box W2 sb 74 (slC 1 fun _ => zSl) from hs2)
  have HC2 := Lib.hid hc2
  have HNE := Lib.hid (show l ≠ sb by omega)
  have HK := Lib.hid (show ∀ k, cchBlk (lruK 1) i cb mb lc hv (fun _ => none) k → k ≠ l from fun k hk => by
    rcases hk with hk | hk | hk | ⟨_, _, _, hk, _⟩ | hk
    · have := hF2 k hk; omega
    · omega
    · omega
    · cases hk
    · exact absurd hk.1 (by decide))
  have HO2 := Lib.hid (HO1.out.trans ho2)
  have HLO := Lib.hid (show w.heap.size ≤ l ∧ w.heap.size ≤ sb from by have := HO1.out.size; omega)
  have HBG := Lib.hid (wk_begin l cb sb (.pointer (some ⟨u, 0, none⟩)) A k cp W2 HNE.out HL2.out HS2.out HC2.out HK.out)
  clear hl2 hs2 hc2 hF2 hcb2 hcs2 hmb2 hms2 hsl ho2 HN hcs hh2
  go_upto_region 5 with (go_at_call 8; refine HBG.out.mono ?_; rintro e W3 ⟨rfl, hl3, hs3, ho3⟩)
  have HU := Lib.hid (wk_up l cb sb (.pointer (some ⟨u, 0, none⟩)) A k cp W3 HNE.out hl3 hs3)
  have HO3 := Lib.hid (HO2.out.trans' ho3 fun k hk => .inr (by have := HLO.out; rcases hk with hk | hk <;> omega))
  clear hl3 hs3 ho3 HBG
  go_upto_region 6 with (go_at_call 10; refine HU.out.mono ?_; rintro e W4 ⟨tb, c, rfl, hc0, hc5, ho4⟩)
  have HO4 := Lib.hid (HO3.out.trans' ho4 fun k hk => .inr (by have := HLO.out; have h1 : k = l := hk; omega))
  clear ho4
  go_wp2_with fail
  go_ret
  exact ⟨rfl, HO4.out⟩
end
end Go.Proofs.YtcphifphidcbaaaGreat
