/- conf.Right. Printed by cfgb.py. -/
import Derived.Test.YtcphifphidcbaaaGreatCfgS
namespace Go.Proofs.YtcphifphidcbaaaGreat
open Go.RowKit
set_option linter.unusedVariables false
set_option linter.unusedSimpArgs false
def RtRel (c : CfgA) (hs : Value) (w : World) (i : Value) (wr : World) : Prop :=
  ∃ t : Nat, t ≤ 3 ∧ i = .int .i64 t ∧ (∀ j, j < t → (1 ≤ c.f (6 + j) ∧ c.f (6 + j) ≤ 2) ∧ (1 ≤ c.f (9 + j) ∧ c.f (9 + j) ≤ 16)) ∧ wr = w.alloc (.cells (cfgCells c hs) 42)
section
set_option maxHeartbeats 2000000
set_option maxRecDepth 100000
theorem right_any (A : Option Addr) (n cp : Nat) (c : CfgA) (w : World) (h : HintsAt w A n cp c.h) :
    Calls Tryz.prog 83 #[.agg (cfgCells c (.slice A n cp))] w fun e w' => e = .returned (.bool (cfgB c)) ∧ Only Non w w' := by
  have H := Lib.hid h
  clear h
  go_enter Tryz.func83, Tryz.ntmps83
  go_wp2_with fail
  have HO := Lib.hid (show Only Non w (w.alloc (.cells (cfgCells c (.slice A n cp)) 42)) from (Only.refl _ _).alloc _)
  have HB := Lib.hid (Box.fresh w 42 (cfgCells c (.slice A n cp)))
  go_loopw [4] (fun i wr => RtRel c (.slice A n cp) w i wr) (fun i _ => 3 - (intOf i).toNat)
  case atStart => exact ⟨0, by omega, rfl, fun j hj => absurd hj (by omega), rfl⟩
  case round =>
    obtain ⟨t, ht, rfl, hl, rfl⟩ := hrel
    have HL := Lib.hid hl
    clear hl
    by_cases hlt : t < 3
    · have x6 : (w.alloc (.cells (cfgCells c (.slice A n cp)) 42)).cell? ⟨w.heap.size, 6 + t, none⟩ = some (.int .i64 (c.f (6 + t))) := HB.out.cellAt (cfgCells_at c _ (by omega))
      have x9 : (w.alloc (.cells (cfgCells c (.slice A n cp)) 42)).cell? ⟨w.heap.size, 9 + t, none⟩ = some (.int .i64 (c.f (9 + t))) := HB.out.cellAt (cfgCells_at c _ (by omega))
      generalize hw1 : w.alloc (.cells (cfgCells c (.slice A n cp)) 42) = w1 at *
      have Hw1 := Lib.hid hw1
      clear hw1
      have hltb : (t : Int) < 3 := by omega
      go_wp2_with fail
      by_cases hh : 1 ≤ c.f (6 + t) ∧ c.f (6 + t) ≤ 2
      rotate_left
      · refine (within_no hh _).mono ?_
        rintro e w5 ⟨rfl, e5⟩
        rw [← e5]
        clear e5
        have Hr := Lib.hid (cfgB_no (c := c) fun p => hh (p.pl t hlt))
        go_wp2_with fail
        go_ret
        exact ⟨by rw [Hr.out]; rfl, HO.out⟩
      have G6 := Lib.hid hh
      refine (within_yes hh _).mono ?_
      rintro e w5 ⟨rfl, e5⟩
      rw [← e5]
      clear e5 hh
      go_wp2_with fail
      by_cases hh : 1 ≤ c.f (9 + t) ∧ c.f (9 + t) ≤ 16
      rotate_left
      · refine (within_no hh _).mono ?_
        rintro e w5 ⟨rfl, e5⟩
        rw [← e5]
        clear e5
        have Hr := Lib.hid (cfgB_no (c := c) fun p => hh (p.pc t hlt))
        go_wp2_with fail
        go_ret
        exact ⟨by rw [Hr.out]; rfl, HO.out⟩
      have G9 := Lib.hid hh
      refine (within_yes hh _).mono ?_
      rintro e w5 ⟨rfl, e5⟩
      rw [← e5]
      clear e5 hh
      go_wp2_with fail
      have HR := Lib.hid (show RtRel c (.slice A n cp) w (.int .i64 ((t : Int) + 1)) w1 from ⟨t + 1, hlt, by simp, fun j hj => by
        rcases Nat.lt_or_ge j t with h | h
        · exact HL.out j h
        · obtain rfl : j = t := by omega
          exact ⟨G6.out, G9.out⟩, Hw1.out.symm⟩)
      refine ⟨?_, ?_⟩
      · (repeat first | exact ⟨HR.out, rfl⟩ | exact HR.out | apply Exists.intro)
      · simp [intOf]; omega
    · obtain rfl : t = 3 := by omega
      have HL := Lib.hid (show (∀ t, t < 3 → 1 ≤ c.f (6 + t) ∧ c.f (6 + t) ≤ 2) ∧ (∀ t, t < 3 → 1 ≤ c.f (9 + t) ∧ c.f (9 + t) ≤ 16) from ⟨fun j hj => (HL.out j hj).1, fun j hj => (HL.out j hj).2⟩)
      have x0 := HB.out.cellAt (cfgCells_at c (.slice A n cp) (i := 0) (by omega))
      have x1 := HB.out.cellAt (cfgCells_at c (.slice A n cp) (i := 1) (by omega))
      have x2 := HB.out.cellAt (cfgCells_at c (.slice A n cp) (i := 2) (by omega))
      have x3 := HB.out.cellAt (cfgCells_at c (.slice A n cp) (i := 3) (by omega))
      have x4 := HB.out.cellAt (cfgCells_at c (.slice A n cp) (i := 4) (by omega))
      have x5 := HB.out.cellAt (cfgCells_at c (.slice A n cp) (i := 5) (by omega))
      have x12 := HB.out.cellAt (cfgCells_at c (.slice A n cp) (i := 12) (by omega))
      have x13 := HB.out.cellAt (cfgCells_at c (.slice A n cp) (i := 13) (by omega))
      have x14 := HB.out.cellAt (cfgCells_at c (.slice A n cp) (i := 14) (by omega))
      have x15 := HB.out.cellAt (cfgCells_at c (.slice A n cp) (i := 15) (by omega))
      have x16 := HB.out.cellAt (cfgCells_hs c (.slice A n cp))
      generalize hw1 : w.alloc (.cells (cfgCells c (.slice A n cp)) 42) = w1 at *
      have Hw1 := Lib.hid hw1
      clear hw1
      go_wp2_with fail
      by_cases hh : 1 ≤ c.f 0 ∧ c.f 0 ≤ 4
      rotate_left
      · refine (within_no hh _).mono ?_
        rintro e w5 ⟨rfl, e5⟩
        rw [← e5]
        clear e5
        have Hr := Lib.hid (cfgB_no (c := c) fun p => hh p.p0)
        go_wp2_with fail
        go_ret
        exact ⟨by rw [Hr.out]; rfl, HO.out⟩
      have H0 := Lib.hid hh
      refine (within_yes hh _).mono ?_
      rintro e w5 ⟨rfl, e5⟩
      rw [← e5]
      clear e5 hh
      go_wp2_with fail
      by_cases hh : 1 ≤ c.f 1 ∧ c.f 1 ≤ 4
      rotate_left
      · refine (within_no hh _).mono ?_
        rintro e w5 ⟨rfl, e5⟩
        rw [← e5]
        clear e5
        have Hr := Lib.hid (cfgB_no (c := c) fun p => hh p.p1)
        go_wp2_with fail
        go_ret
        exact ⟨by rw [Hr.out]; rfl, HO.out⟩
      have H1 := Lib.hid hh
      refine (within_yes hh _).mono ?_
      rintro e w5 ⟨rfl, e5⟩
      rw [← e5]
      clear e5 hh
      go_wp2_with fail
      by_cases hh : 1 ≤ c.f 2 ∧ c.f 2 ≤ 32
      rotate_left
      · refine (within_no hh _).mono ?_
        rintro e w5 ⟨rfl, e5⟩
        rw [← e5]
        clear e5
        have Hr := Lib.hid (cfgB_no (c := c) fun p => hh p.p2)
        go_wp2_with fail
        go_ret
        exact ⟨by rw [Hr.out]; rfl, HO.out⟩
      have H2 := Lib.hid hh
      refine (within_yes hh _).mono ?_
      rintro e w5 ⟨rfl, e5⟩
      rw [← e5]
      clear e5 hh
      go_wp2_with fail
      by_cases hh : 1 ≤ c.f 3 ∧ c.f 3 ≤ 16
      rotate_left
      · refine (within_no hh _).mono ?_
        rintro e w5 ⟨rfl, e5⟩
        rw [← e5]
        clear e5
        have Hr := Lib.hid (cfgB_no (c := c) fun p => hh p.p3)
        go_wp2_with fail
        go_ret
        exact ⟨by rw [Hr.out]; rfl, HO.out⟩
      have H3 := Lib.hid hh
      refine (within_yes hh _).mono ?_
      rintro e w5 ⟨rfl, e5⟩
      rw [← e5]
      clear e5 hh
      go_wp2_with fail
      by_cases hh : 1 ≤ c.f 4 ∧ c.f 4 ≤ 3
      rotate_left
      · refine (within_no hh _).mono ?_
        rintro e w5 ⟨rfl, e5⟩
        rw [← e5]
        clear e5
        have Hr := Lib.hid (cfgB_no (c := c) fun p => hh p.p4)
        go_wp2_with fail
        go_ret
        exact ⟨by rw [Hr.out]; rfl, HO.out⟩
      have H4 := Lib.hid hh
      refine (within_yes hh _).mono ?_
      rintro e w5 ⟨rfl, e5⟩
      rw [← e5]
      clear e5 hh
      go_wp2_with fail
      by_cases hh : 0 ≤ c.f 5 ∧ c.f 5 ≤ 2
      rotate_left
      · refine (within_no hh _).mono ?_
        rintro e w5 ⟨rfl, e5⟩
        rw [← e5]
        clear e5
        have Hr := Lib.hid (cfgB_no (c := c) fun p => hh p.p5)
        go_wp2_with fail
        go_ret
        exact ⟨by rw [Hr.out]; rfl, HO.out⟩
      have H5 := Lib.hid hh
      refine (within_yes hh _).mono ?_
      rintro e w5 ⟨rfl, e5⟩
      rw [← e5]
      clear e5 hh
      by_cases hz : c.f 5 = 0
      · have HN2 := Lib.hid (show ¬ c.f 5 = 2 from by omega)
        have HZ := Lib.hid hz
        have g5 : (c.f 5 != 0) = false := by simp [hz]
        have g6 : (c.f 5 != 2) = true := by simp [hz]
        clear hz
        go_wp2_with fail
        by_cases hh : 1 ≤ c.f 12 ∧ c.f 12 ≤ 8
        rotate_left
        · refine (within_no hh _).mono ?_
          rintro e w5 ⟨rfl, e5⟩
          rw [← e5]
          clear e5
          have Hr := Lib.hid (cfgB_no (c := c) fun p => hh p.p12)
          go_wp2_with fail
          go_ret
          exact ⟨by rw [Hr.out]; rfl, HO.out⟩
        have H12 := Lib.hid hh
        refine (within_yes hh _).mono ?_
        rintro e w5 ⟨rfl, e5⟩
        rw [← e5]
        clear e5 hh
        go_wp2_with fail
        by_cases hh : 1 ≤ c.f 13 ∧ c.f 13 ≤ 100
        rotate_left
        · refine (within_no hh _).mono ?_
          rintro e w5 ⟨rfl, e5⟩
          rw [← e5]
          clear e5
          have Hr := Lib.hid (cfgB_no (c := c) fun p => hh p.p13)
          go_wp2_with fail
          go_ret
          exact ⟨by rw [Hr.out]; rfl, HO.out⟩
        have H13 := Lib.hid hh
        refine (within_yes hh _).mono ?_
        rintro e w5 ⟨rfl, e5⟩
        rw [← e5]
        clear e5 hh
        go_wp2_with fail
        by_cases hh : 0 ≤ c.f 14 ∧ c.f 14 ≤ 16
        rotate_left
        · refine (within_no hh _).mono ?_
          rintro e w5 ⟨rfl, e5⟩
          rw [← e5]
          clear e5
          have Hr := Lib.hid (cfgB_no (c := c) fun p => hh p.p14)
          go_wp2_with fail
          go_ret
          exact ⟨by rw [Hr.out]; rfl, HO.out⟩
        have H14 := Lib.hid hh
        refine (within_yes hh _).mono ?_
        rintro e w5 ⟨rfl, e5⟩
        rw [← e5]
        clear e5 hh
        go_wp2_with fail
        by_cases hh : 1 ≤ c.f 15 ∧ c.f 15 ≤ 16
        rotate_left
        · refine (within_no hh _).mono ?_
          rintro e w5 ⟨rfl, e5⟩
          rw [← e5]
          clear e5
          have Hr := Lib.hid (cfgB_no (c := c) fun p => hh p.p15)
          go_wp2_with fail
          go_ret
          exact ⟨by rw [Hr.out]; rfl, HO.out⟩
        have H15 := Lib.hid hh
        refine (within_yes hh _).mono ?_
        rintro e w5 ⟨rfl, e5⟩
        rw [← e5]
        clear e5 hh
        by_cases h2 : c.h.length = 0
        · have Hh := Lib.hid h2
          have g2 : ¬ ((0 : Int) < (n : Int)) := by have := H.out.len; omega
          clear h2
          have Hb := Lib.hid (show cfgB c = hintsB (c.f 2) c.h from by
            rw [Bool.eq_iff_iff, cfgB_iff, hintsB_iff]
            exact ⟨fun p => p.hs, fun p => ⟨H0.out, H1.out, H2.out, H3.out, H4.out, H5.out, .inl HZ.out, HL.out.1, HL.out.2, H12.out, H13.out, H14.out, H15.out, .inr Hh.out, p⟩⟩)
          go_wp2_with fail
          refine (hints_any A n cp c.h (c.f 2) _ (H.out.keep HO.out) H2.out.1 H2.out.2).mono ?_
          rintro e w6 ⟨rfl, ho6⟩
          have Ho6 := Lib.hid (HO.out.transN ho6)
          clear ho6
          go_wp2_with fail
          go_ret
          exact ⟨by rw [Hb.out]; rfl, Ho6.out⟩
        · have Hh := Lib.hid h2
          have g2 : (0 : Int) < (n : Int) := by have := H.out.len; omega
          clear h2
          have Hr := Lib.hid (cfgB_no (c := c) fun p => p.ph.elim (fun h => HN2.out h) Hh.out)
          go_wp2_with fail
          go_ret
          exact ⟨by rw [Hr.out]; rfl, HO.out⟩
      · by_cases hm : c.f 4 = 2
        · have g5 : (c.f 5 != 0) = true := by simp [hz]
          have g4 : (c.f 4 != 2) = false := by simp [hm]
          have HM := Lib.hid hm
          clear hz hm
          go_wp2_with fail
          by_cases hh : 1 ≤ c.f 12 ∧ c.f 12 ≤ 8
          rotate_left
          · refine (within_no hh _).mono ?_
            rintro e w5 ⟨rfl, e5⟩
            rw [← e5]
            clear e5
            have Hr := Lib.hid (cfgB_no (c := c) fun p => hh p.p12)
            go_wp2_with fail
            go_ret
            exact ⟨by rw [Hr.out]; rfl, HO.out⟩
          have H12 := Lib.hid hh
          refine (within_yes hh _).mono ?_
          rintro e w5 ⟨rfl, e5⟩
          rw [← e5]
          clear e5 hh
          go_wp2_with fail
          by_cases hh : 1 ≤ c.f 13 ∧ c.f 13 ≤ 100
          rotate_left
          · refine (within_no hh _).mono ?_
            rintro e w5 ⟨rfl, e5⟩
            rw [← e5]
            clear e5
            have Hr := Lib.hid (cfgB_no (c := c) fun p => hh p.p13)
            go_wp2_with fail
            go_ret
            exact ⟨by rw [Hr.out]; rfl, HO.out⟩
          have H13 := Lib.hid hh
          refine (within_yes hh _).mono ?_
          rintro e w5 ⟨rfl, e5⟩
          rw [← e5]
          clear e5 hh
          go_wp2_with fail
          by_cases hh : 0 ≤ c.f 14 ∧ c.f 14 ≤ 16
          rotate_left
          · refine (within_no hh _).mono ?_
            rintro e w5 ⟨rfl, e5⟩
            rw [← e5]
            clear e5
            have Hr := Lib.hid (cfgB_no (c := c) fun p => hh p.p14)
            go_wp2_with fail
            go_ret
            exact ⟨by rw [Hr.out]; rfl, HO.out⟩
          have H14 := Lib.hid hh
          refine (within_yes hh _).mono ?_
          rintro e w5 ⟨rfl, e5⟩
          rw [← e5]
          clear e5 hh
          go_wp2_with fail
          by_cases hh : 1 ≤ c.f 15 ∧ c.f 15 ≤ 16
          rotate_left
          · refine (within_no hh _).mono ?_
            rintro e w5 ⟨rfl, e5⟩
            rw [← e5]
            clear e5
            have Hr := Lib.hid (cfgB_no (c := c) fun p => hh p.p15)
            go_wp2_with fail
            go_ret
            exact ⟨by rw [Hr.out]; rfl, HO.out⟩
          have H15 := Lib.hid hh
          refine (within_yes hh _).mono ?_
          rintro e w5 ⟨rfl, e5⟩
          rw [← e5]
          clear e5 hh
          by_cases h5 : c.f 5 = 2
          · have HN2 := Lib.hid h5
            have g6 : (c.f 5 != 2) = false := by simp [h5]
            clear h5
            have Hb := Lib.hid (show cfgB c = hintsB (c.f 2) c.h from by
              rw [Bool.eq_iff_iff, cfgB_iff, hintsB_iff]
              exact ⟨fun p => p.hs, fun p => ⟨H0.out, H1.out, H2.out, H3.out, H4.out, H5.out, .inr HM.out, HL.out.1, HL.out.2, H12.out, H13.out, H14.out, H15.out, .inl HN2.out, p⟩⟩)
            go_wp2_with fail
            refine (hints_any A n cp c.h (c.f 2) _ (H.out.keep HO.out) H2.out.1 H2.out.2).mono ?_
            rintro e w6 ⟨rfl, ho6⟩
            have Ho6 := Lib.hid (HO.out.transN ho6)
            clear ho6
            go_wp2_with fail
            go_ret
            exact ⟨by rw [Hb.out]; rfl, Ho6.out⟩
          · have HN2 := Lib.hid h5
            have g6 : (c.f 5 != 2) = true := by simp [h5]
            clear h5
            by_cases h2 : c.h.length = 0
            · have Hh := Lib.hid h2
              have g2 : ¬ ((0 : Int) < (n : Int)) := by have := H.out.len; omega
              clear h2
              have Hb := Lib.hid (show cfgB c = hintsB (c.f 2) c.h from by
                rw [Bool.eq_iff_iff, cfgB_iff, hintsB_iff]
                exact ⟨fun p => p.hs, fun p => ⟨H0.out, H1.out, H2.out, H3.out, H4.out, H5.out, .inr HM.out, HL.out.1, HL.out.2, H12.out, H13.out, H14.out, H15.out, .inr Hh.out, p⟩⟩)
              go_wp2_with fail
              refine (hints_any A n cp c.h (c.f 2) _ (H.out.keep HO.out) H2.out.1 H2.out.2).mono ?_
              rintro e w6 ⟨rfl, ho6⟩
              have Ho6 := Lib.hid (HO.out.transN ho6)
              clear ho6
              go_wp2_with fail
              go_ret
              exact ⟨by rw [Hb.out]; rfl, Ho6.out⟩
            · have Hh := Lib.hid h2
              have g2 : (0 : Int) < (n : Int) := by have := H.out.len; omega
              clear h2
              have Hr := Lib.hid (cfgB_no (c := c) fun p => p.ph.elim (fun h => HN2.out h) Hh.out)
              go_wp2_with fail
              go_ret
              exact ⟨by rw [Hr.out]; rfl, HO.out⟩
        · have g5 : (c.f 5 != 0) = true := by simp [hz]
          have g4 : (c.f 4 != 2) = true := by simp [hm]
          have HH := Lib.hid (And.intro hz hm)
          clear hz hm
          have Hr := Lib.hid (cfgB_no (c := c) fun p => p.pp.elim HH.out.1 HH.out.2)
          go_wp2_with fail
          go_ret
          exact ⟨by rw [Hr.out]; rfl, HO.out⟩
end
end Go.Proofs.YtcphifphidcbaaaGreat
