/- Several texts, one behind the other: Tgw. -/
import Derived.Test.YtdjjlglmhbmnlaaGreatM25
import Derived.Test.YtdjjlglmhbmnlaaGreatM26
/- CacheTarget, walked. -/
namespace Go.Proofs.YtdjjlglmhbmnlaaGreat
open Go.RowKit Go.ChangeShapes Go.WideShapes
set_option linter.unusedVariables false
set_option linter.unusedSimpArgs false
theorem isTgt_of {c : CfgA} {b a T : Int} (h : IsTgt c b a T) : T = 4 ∨ ∃ k : Nat, k < 3 ∧ T = k + 1 ∧ a < T ∧ takesB c k b T = true := by
  rcases h with ⟨_, rfl⟩ | ⟨h1, h2, rfl⟩ | ⟨h1, h2, ⟨t, h3, h4, h5, _, rfl⟩ | ⟨_, rfl⟩⟩
  · exact .inl rfl
  · unfold badT at h1
    refine .inr ⟨a.toNat, by omega, by omega, by omega, ?_⟩
    unfold takesB
    rw [if_neg h2, decide_eq_true (show 0 ≤ b by omega), decide_eq_true (show b < c.f 2 by omega), decide_eq_true (show a + 1 = ((a.toNat + 1 : Nat) : Int) by omega)]
    simp
  · unfold badT at h1
    refine .inr ⟨t, h4, rfl, by omega, ?_⟩
    unfold takesB
    rw [if_pos h2, decide_eq_true (show 0 ≤ b by omega), decide_eq_true (show b < c.f 2 by omega), decide_eq_true h5]
    rfl
  · exact .inl rfl
section
set_option maxHeartbeats 4000000
set_option maxRecDepth 100000
theorem target_walk (c : CfgA) (A : Option Addr) (m : Nat) (b a : Int) (w : World) (hin : HintsAt w A c.h.length m c.h) :
    Calls Tryz.prog 3 #[.agg (cfgCells c (.slice A c.h.length m)), .int .i64 b, .int .i64 a] w fun e w' => e = .returned (.bool true) ∧ Only Non w w' := by
  have HIN := Lib.hid hin
  have hmh := Nat.le_trans hin.cap hin.max
  unfold maxLen at hmh
  have HB := Lib.hid (Box.fresh w 25 (cfgCells c (.slice A c.h.length m)))
  have HO := Lib.hid ((Only.refl Non w).alloc (.cells (cfgCells c (.slice A c.h.length m)) 25))
  clear hin
  go_enter Tryz.func3, Tryz.ntmps3
  go_upto_region 1 with fail
  change Code.wp _ _ _ _ (w.alloc (.cells (cfgCells c (.slice A c.h.length m)) 25))
  generalize w.alloc (.cells (cfgCells c (.slice A c.h.length m)) 25) = W1 at *
  obtain ⟨cfb, hcf⟩ : ∃ cfb, cfb = w.heap.size := ⟨_, rfl⟩
  rw [← hcf] at HB ⊢
  clear hcf
  go_upto_region 3 with (go_at_call 5; refine (wakes_any W1).mono ?_; rintro e W2 ⟨rfl, ho2⟩)
  have HB2 := Lib.hid (ho2.box HB.out id)
  have HO2 := Lib.hid (HO.out.trans ho2)
  clear ho2 HB HO
  have c16 : W2.cell? ⟨cfb, 16, none⟩ = some (.slice A c.h.length m) := HB2.out.cellAt (cfgCells_hs c _)
  by_cases hl : 20 < c.h.length
  · have hli : (20 : Int) < c.h.length := by omega
    go_wp2
    go_ret
    exact ⟨rfl, HO2.out⟩
  · have hli : ¬ (20 : Int) < c.h.length := by omega
    have x0 : W2.cell? ⟨cfb, 0, none⟩ = some (.int .i64 (c.f 0)) := HB2.out.cellAt (cfgCells_at c _ (by decide))
    have x1 : W2.cell? ⟨cfb, 1, none⟩ = some (.int .i64 (c.f 1)) := HB2.out.cellAt (cfgCells_at c _ (by decide))
    have x2 : W2.cell? ⟨cfb, 2, none⟩ = some (.int .i64 (c.f 2)) := HB2.out.cellAt (cfgCells_at c _ (by decide))
    have x3 : W2.cell? ⟨cfb, 3, none⟩ = some (.int .i64 (c.f 3)) := HB2.out.cellAt (cfgCells_at c _ (by decide))
    have x4 : W2.cell? ⟨cfb, 4, none⟩ = some (.int .i64 (c.f 4)) := HB2.out.cellAt (cfgCells_at c _ (by decide))
    have x5 : W2.cell? ⟨cfb, 5, none⟩ = some (.int .i64 (c.f 5)) := HB2.out.cellAt (cfgCells_at c _ (by decide))
    have x6 : W2.cell? ⟨cfb, 6, none⟩ = some (.int .i64 (c.f 6)) := HB2.out.cellAt (cfgCells_at c _ (by decide))
    have x7 : W2.cell? ⟨cfb, 7, none⟩ = some (.int .i64 (c.f 7)) := HB2.out.cellAt (cfgCells_at c _ (by decide))
    have x8 : W2.cell? ⟨cfb, 8, none⟩ = some (.int .i64 (c.f 8)) := HB2.out.cellAt (cfgCells_at c _ (by decide))
    have x9 : W2.cell? ⟨cfb, 9, none⟩ = some (.int .i64 (c.f 9)) := HB2.out.cellAt (cfgCells_at c _ (by decide))
    have x10 : W2.cell? ⟨cfb, 10, none⟩ = some (.int .i64 (c.f 10)) := HB2.out.cellAt (cfgCells_at c _ (by decide))
    have x11 : W2.cell? ⟨cfb, 11, none⟩ = some (.int .i64 (c.f 11)) := HB2.out.cellAt (cfgCells_at c _ (by decide))
    have x12 : W2.cell? ⟨cfb, 12, none⟩ = some (.int .i64 (c.f 12)) := HB2.out.cellAt (cfgCells_at c _ (by decide))
    have x13 : W2.cell? ⟨cfb, 13, none⟩ = some (.int .i64 (c.f 13)) := HB2.out.cellAt (cfgCells_at c _ (by decide))
    have x14 : W2.cell? ⟨cfb, 14, none⟩ = some (.int .i64 (c.f 14)) := HB2.out.cellAt (cfgCells_at c _ (by decide))
    have x15 : W2.cell? ⟨cfb, 15, none⟩ = some (.int .i64 (c.f 15)) := HB2.out.cellAt (cfgCells_at c _ (by decide))
    have HRR : Hid (Calls Tryz.prog 6 #[.agg #[.int .i64 (c.f 0), .int .i64 (c.f 1), .int .i64 (c.f 2), .int .i64 (c.f 3), .int .i64 (c.f 4), .int .i64 (c.f 5), .int .i64 (c.f 6), .int .i64 (c.f 7), .int .i64 (c.f 8), .int .i64 (c.f 9), .int .i64 (c.f 10), .int .i64 (c.f 11), .int .i64 (c.f 12), .int .i64 (c.f 13), .int .i64 (c.f 14), .int .i64 (c.f 15), .slice A c.h.length m]] W2 fun e w' => e = .returned (.bool (cfgB c)) ∧ Only Non W2 w') := Lib.hid (rright_any A c.h.length m c W2 (HIN.out.keep HO2.out))
    by_cases hP : CfgP c
    · rw [cfgB_yes hP] at HRR
      go_upto_region 5 with (go_at_call 6; refine HRR.out.mono ?_; rintro e W3 ⟨rfl, ho3⟩)
      have HB3 := Lib.hid (ho3.box HB2.out id)
      have HO3 := Lib.hid (HO2.out.trans ho3)
      have HT := Lib.hid (target_any hP b a W3 (HIN.out.keep HO3.out))
      clear ho3 HB2 HO2 HRR c16 x0 x1 x2 x3 x4 x5 x6 x7 x8 x9 x10 x11 x12 x13 x14 x15
      go_upto_region 6 with (first | (refine wpList_load_row rfl 25 _ rfl cfb rfl 25 (cfgCells c (.slice A c.h.length m)) (0, 0) _ HB3.out Tryz.underlying25 rfl (by kernel_rfl) ?_) | (go_at_call 7; refine HT.out.mono ?_; rintro e W4 ⟨T, rfl, hT, ho4⟩))
      have HB4 := Lib.hid (ho4.box HB3.out id)
      have HO4 := Lib.hid (HO3.out.trans ho4)
      have HR : Hid (Calls Tryz.prog 8 #[.agg (cfgCells c (.slice A c.h.length m)), .int .i64 b, .int .i64 a] W4 fun e w' => e = .returned (.int .i64 T) ∧ Only Non W4 w') := Lib.hid ((rtarget_any hP b a W4 (HIN.out.keep HO4.out)).mono fun e w' ⟨T', h1, h2, h3⟩ => ⟨by rw [hT.unique h2]; exact h1, h3⟩)
      have HTT := Lib.hid (isTgt_of hT)
      clear ho4 HB3 HO3 HT hT
      go_upto_region 8 with (first | (refine wpList_load_row rfl 25 _ rfl cfb rfl 25 (cfgCells c (.slice A c.h.length m)) (0, 0) _ HB4.out Tryz.underlying25 rfl (by kernel_rfl) ?_) | (go_at_call 8; refine HR.out.mono ?_; rintro e W5 ⟨rfl, ho5⟩))
      have HB5 := Lib.hid (ho5.box HB4.out id)
      have HO5 := Lib.hid (HO4.out.trans ho5)
      clear ho5 HB4 HO4 HR
      rcases HTT.out with rfl | ⟨k, hk, rfl, haT, htk⟩
      · go_wp2
        go_ret
        exact ⟨rfl, HO5.out⟩
      · have HTK := Lib.hid htk
        have hkk : ¬ (3 : Int) < k + 1 := by omega
        have HN := Lib.hid (show Calls Tryz.prog 9 #[.agg (cfgCells c (.slice A c.h.length m)), .int .i64 ((k : Int) + 1)] W5 (NPost (kOf c k hP hk) c (k + 1) W5) from cch_new (kOf_made hP hk) hP (by omega) (by omega) W5 (HIN.out.keep HO5.out))
        clear htk HTT
        go_upto_region 11 with (first | (refine wpList_load_row rfl 25 _ rfl cfb rfl 25 (cfgCells c (.slice A c.h.length m)) (0, 0) _ HB5.out Tryz.underlying25 rfl (by kernel_rfl) ?_) | (go_at_call 9; refine HN.out.mono ?_; rintro e W6 ⟨i, cb, mb, hv, rfl, hc6, hF6, hcb6, hmb6, _, ho6⟩; have HC6 := Lib.hid hc6; have HO6 := Lib.hid (HO5.out.trans ho6); clear hc6 hF6 hcb6 hmb6 ho6))
        have HTA := Lib.hid (show Calls Tryz.prog 10 #[.pointer (some ⟨cb, 0, none⟩), .int .i64 b, .int .i64 ((k : Int) + 1)] W6 fun e w' => e = .returned (.bool true) ∧ Only Non W6 w' from by
          have := takes_any b ((k : Int) + 1) HC6.out
          rw [HTK.out] at this
          exact this)
        go_wp2_with (go_at_call 10; refine HTA.out.mono ?_; rintro e W7 ⟨rfl, ho7⟩)
        go_ret
        exact ⟨rfl, HO6.out.trans ho7⟩
    · rw [cfgB_no hP] at HRR
      go_wp2_with (go_at_call 6; refine HRR.out.mono ?_; rintro e W3 ⟨rfl, ho3⟩)
      go_ret
      exact ⟨rfl, HO2.out.trans ho3⟩
end
end Go.Proofs.YtdjjlglmhbmnlaaGreat
