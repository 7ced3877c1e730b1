/- Several texts, one behind the other: Cfd. -/
import Derived.Test.YtodephhlhdbeoaaGreatM5
import Derived.Deep.CutRange
namespace Go.Proofs.YtodephhlhdbeoaaGreat
open Go.RowKit
set_option linter.unusedVariables false
set_option linter.unusedSimpArgs false
structure P1 (c : CfgA) : Prop where
  p0 : 1 ≤ c.f 0 ∧ c.f 0 ≤ 4
  p1 : 1 ≤ c.f 1 ∧ c.f 1 ≤ 4
  p2 : 1 ≤ c.f 2 ∧ c.f 2 ≤ 32
  p3 : 1 ≤ c.f 3 ∧ c.f 3 ≤ 16
structure P2 (c : CfgA) : Prop where
  q : P1 c
  p4 : 1 ≤ c.f 4 ∧ c.f 4 ≤ 3
  p5 : 0 ≤ c.f 5 ∧ c.f 5 ≤ 2
  pp : c.f 5 = 0 ∨ c.f 4 = 2
structure P3 (c : CfgA) (k : Nat) : Prop where
  q : P2 c
  l : ∀ t, t < k → (1 ≤ c.f (6 + t) ∧ c.f (6 + t) ≤ 2) ∧ (1 ≤ c.f (9 + t) ∧ c.f (9 + t) ≤ 16)
structure P4 (c : CfgA) : Prop where
  q : P3 c 3
  p12 : 1 ≤ c.f 12 ∧ c.f 12 ≤ 8
  p13 : 1 ≤ c.f 13 ∧ c.f 13 ≤ 100
  p14 : 0 ≤ c.f 14 ∧ c.f 14 ≤ 16
  p15 : 1 ≤ c.f 15 ∧ c.f 15 ≤ 16
theorem P4.of {c : CfgA} (p : CfgP c) : P4 c := ⟨⟨⟨⟨p.p0, p.p1, p.p2, p.p3⟩, p.p4, p.p5, p.pp⟩, fun t ht => ⟨p.pl t ht, p.pc t ht⟩⟩, p.p12, p.p13, p.p14, p.p15⟩
theorem P4.cfg {c : CfgA} (h : P4 c) (hh : c.f 5 = 2 ∨ c.h.length = 0) (hs : hintsP (c.f 2) c.h) : CfgP c :=
  ⟨h.q.q.q.p0, h.q.q.q.p1, h.q.q.q.p2, h.q.q.q.p3, h.q.q.p4, h.q.q.p5, h.q.q.pp, fun t ht => (h.q.l t ht).1, fun t ht => (h.q.l t ht).2, h.p12, h.p13, h.p14, h.p15, hh, hs⟩
def RrRel (c : CfgA) (w1 : World) (ok i : Value) (wr : World) : Prop :=
  ∃ (t : Nat) (b : Bool), t ≤ 3 ∧ i = .int .i64 t ∧ ok = .bool b ∧ (b = true ↔ P3 c t) ∧ wr = w1
section
set_option maxHeartbeats 2000000
set_option maxRecDepth 100000
theorem rright_any (A : Option Addr) (n cp : Nat) (c : CfgA) (w : World) (h : HintsAt w A n cp c.h) :
    Calls Tryz.prog 20 #[.agg (cfgCells c (.slice A n cp))] w fun e w' => e = .returned (.bool (cfgB c)) ∧ Only Non w w' := by
  have H := Lib.hid h
  clear h
  have HO := Lib.hid (show Only Non w (w.alloc (.cells (cfgCells c (.slice A n cp)) 25)) from (Only.refl _ _).alloc _)
  have HB := Lib.hid (Box.fresh w 25 (cfgCells c (.slice A n cp)))
  have x0 := HB.out.cellAt (cfgCells_at c (.slice A n cp) (i := 0) (by omega))
  have x1 := HB.out.cellAt (cfgCells_at c (.slice A n cp) (i := 1) (by omega))
  have x2 := HB.out.cellAt (cfgCells_at c (.slice A n cp) (i := 2) (by omega))
  have x3 := HB.out.cellAt (cfgCells_at c (.slice A n cp) (i := 3) (by omega))
  have x4 := HB.out.cellAt (cfgCells_at c (.slice A n cp) (i := 4) (by omega))
  have x5 := HB.out.cellAt (cfgCells_at c (.slice A n cp) (i := 5) (by omega))
  have x12 := HB.out.cellAt (cfgCells_at c (.slice A n cp) (i := 12) (by omega))
  have x13 := HB.out.cellAt (cfgCells_at c (.slice A n cp) (i := 13) (by omega))
  have x14 := HB.out.cellAt (cfgCells_at c (.slice A n cp) (i := 14) (by omega))
  have x15 := HB.out.cellAt (cfgCells_at c (.slice A n cp) (i := 15) (by omega))
  have x16 := HB.out.cellAt (cfgCells_hs c (.slice A n cp))
  go_enter Tryz.func20, Tryz.ntmps20
  go_upto_region 1 with fail
  generalize hw1 : w.alloc (.cells (cfgCells c (.slice A n cp)) 25) = w1 at *
  have Hw1 := Lib.hid hw1
  clear hw1
  go_cut [3] from 5 to 22 (fun s3 wx => ∃ b : Bool, s3 = .bool b ∧ (b = true ↔ P1 c) ∧ wx = w1)
  case first =>
    go_wp2_with fail
    by_cases hh : 1 ≤ c.f 0 ∧ c.f 0 ≤ 4
    rotate_left
    · refine (between_no hh _).mono ?_
      rintro e w5 ⟨rfl, e5⟩
      rw [← e5]
      clear e5
      have HN := Lib.hid hh
      clear hh
      go_wp2_with fail
      go_meet
      exact ⟨false, rfl, ⟨fun h => Bool.noConfusion h, fun h => absurd h.p0 HN.out⟩, rfl⟩
    have H0 := Lib.hid hh
    refine (between_yes hh _).mono ?_
    rintro e w5 ⟨rfl, e5⟩
    rw [← e5]
    clear e5 hh
    go_wp2_with fail
    by_cases hh : 1 ≤ c.f 1 ∧ c.f 1 ≤ 4
    rotate_left
    · refine (between_no hh _).mono ?_
      rintro e w5 ⟨rfl, e5⟩
      rw [← e5]
      clear e5
      have HN := Lib.hid hh
      clear hh
      go_wp2_with fail
      go_meet
      exact ⟨false, rfl, ⟨fun h => Bool.noConfusion h, fun h => absurd h.p1 HN.out⟩, rfl⟩
    have H1 := Lib.hid hh
    refine (between_yes hh _).mono ?_
    rintro e w5 ⟨rfl, e5⟩
    rw [← e5]
    clear e5 hh
    go_wp2_with fail
    by_cases hh : 1 ≤ c.f 2 ∧ c.f 2 ≤ 32
    rotate_left
    · refine (between_no hh _).mono ?_
      rintro e w5 ⟨rfl, e5⟩
      rw [← e5]
      clear e5
      have HN := Lib.hid hh
      clear hh
      go_wp2_with fail
      go_meet
      exact ⟨false, rfl, ⟨fun h => Bool.noConfusion h, fun h => absurd h.p2 HN.out⟩, rfl⟩
    have H2 := Lib.hid hh
    refine (between_yes hh _).mono ?_
    rintro e w5 ⟨rfl, e5⟩
    rw [← e5]
    clear e5 hh
    go_wp2_with fail
    by_cases hh : 1 ≤ c.f 3 ∧ c.f 3 ≤ 16
    rotate_left
    · refine (between_no hh _).mono ?_
      rintro e w5 ⟨rfl, e5⟩
      rw [← e5]
      clear e5
      have HN := Lib.hid hh
      clear hh
      go_wp2_with fail
      go_meet
      exact ⟨false, rfl, ⟨fun h => Bool.noConfusion h, fun h => absurd h.p3 HN.out⟩, rfl⟩
    have H3 := Lib.hid hh
    refine (between_yes hh _).mono ?_
    rintro e w5 ⟨rfl, e5⟩
    rw [← e5]
    clear e5 hh
    go_wp2_with fail
    go_meet
    exact ⟨true, rfl, ⟨fun _ => ⟨H0.out, H1.out, H2.out, H3.out⟩, fun _ => rfl⟩, rfl⟩
  case rest =>
    obtain ⟨b, rfl, hb, rfl⟩ := hcut
    have Hb := Lib.hid hb
    clear hb
    go_upto_region 2 with fail
    go_cut [3] from 23 to 43 (fun s3 wx => ∃ b : Bool, s3 = .bool b ∧ (b = true ↔ P2 c) ∧ wx = wc)
    case first =>
      cases b with
      | false =>
        go_wp2_with fail
        go_meet
        exact ⟨false, rfl, ⟨fun h => Bool.noConfusion h, fun h => absurd (Hb.out.2 h.q) Bool.false_ne_true⟩, rfl⟩
      | true =>
        have HP := Lib.hid (Hb.out.1 rfl)
        go_wp2_with fail
        by_cases hh : 1 ≤ c.f 4 ∧ c.f 4 ≤ 3
        rotate_left
        · refine (between_no hh _).mono ?_
          rintro e w5 ⟨rfl, e5⟩
          rw [← e5]
          clear e5
          have HN := Lib.hid hh
          clear hh
          go_wp2_with fail
          go_meet
          exact ⟨false, rfl, ⟨fun h => Bool.noConfusion h, fun h => absurd h.p4 HN.out⟩, rfl⟩
        have H4 := Lib.hid hh
        refine (between_yes hh _).mono ?_
        rintro e w5 ⟨rfl, e5⟩
        rw [← e5]
        clear e5 hh
        go_wp2_with fail
        by_cases hh : 0 ≤ c.f 5 ∧ c.f 5 ≤ 2
        rotate_left
        · refine (between_no hh _).mono ?_
          rintro e w5 ⟨rfl, e5⟩
          rw [← e5]
          clear e5
          have HN := Lib.hid hh
          clear hh
          go_wp2_with fail
          go_meet
          exact ⟨false, rfl, ⟨fun h => Bool.noConfusion h, fun h => absurd h.p5 HN.out⟩, rfl⟩
        have H5 := Lib.hid hh
        refine (between_yes hh _).mono ?_
        rintro e w5 ⟨rfl, e5⟩
        rw [← e5]
        clear e5 hh
        by_cases hz : c.f 5 = 0
        · have HZ := Lib.hid (show c.f 5 = 0 ∨ c.f 4 = 2 from .inl hz)
          have g5 : (c.f 5 == 0) = true := by simp [hz]
          clear hz
          go_wp2_with fail
          go_meet
          exact ⟨true, rfl, ⟨fun _ => ⟨HP.out, H4.out, H5.out, HZ.out⟩, fun _ => rfl⟩, rfl⟩
        · by_cases hm : c.f 4 = 2
          · have HZ := Lib.hid (show c.f 5 = 0 ∨ c.f 4 = 2 from .inr hm)
            have g5 : (c.f 5 == 0) = false := by simp [hz]
            have g4 : (c.f 4 == 2) = true := by simp [hm]
            clear hz hm
            go_wp2_with fail
            go_meet
            exact ⟨true, rfl, ⟨fun _ => ⟨HP.out, H4.out, H5.out, HZ.out⟩, fun _ => rfl⟩, rfl⟩
          · have HN := Lib.hid (show ¬ (c.f 5 = 0 ∨ c.f 4 = 2) from fun h => h.elim hz hm)
            have g5 : (c.f 5 == 0) = false := by simp [hz]
            have g4 : (c.f 4 == 2) = false := by simp [hm]
            clear hz hm
            go_wp2_with fail
            go_meet
            exact ⟨false, rfl, ⟨fun h => Bool.noConfusion h, fun h => absurd h.pp HN.out⟩, rfl⟩
    case rest =>
      clear Hb
      obtain ⟨b, rfl, hb, rfl⟩ := hcut
      have Hb := Lib.hid hb
      clear hb
      go_wp2_with fail
      go_loopw [3, 4] (fun ok i wr => RrRel c wc ok i wr) (fun _ i _ => 3 - (intOf i).toNat)
      case atStart => exact ⟨0, b, by omega, rfl, rfl, Hb.out.trans ⟨fun h => ⟨h, fun j hj => absurd hj (by omega)⟩, fun h => h.q⟩, rfl⟩
      case round =>
        clear Hb
        obtain ⟨t, b, ht, rfl, rfl, hb, rfl⟩ := hrel
        have Hb := Lib.hid hb
        clear hb
        by_cases hlt : t < 3
        · have x6 : wr.cell? ⟨w.heap.size, 6 + t, none⟩ = some (.int .i64 (c.f (6 + t))) := HB.out.cellAt (cfgCells_at c _ (by omega))
          have x9 : wr.cell? ⟨w.heap.size, 9 + t, none⟩ = some (.int .i64 (c.f (9 + t))) := HB.out.cellAt (cfgCells_at c _ (by omega))
          have hltb : (t : Int) < 3 := by omega
          cases b with
          | false =>
            go_wp2_with fail
            have HR := Lib.hid (show RrRel c wr (.bool false) (.int .i64 ((t : Int) + 1)) wr from ⟨t + 1, false, hlt, by simp, rfl, ⟨fun h => Bool.noConfusion h, fun h => absurd (Hb.out.2 ⟨h.q, fun j hj => h.l j (by omega)⟩) Bool.false_ne_true⟩, rfl⟩)
            refine ⟨?_, ?_⟩
            · (repeat first | exact ⟨HR.out, rfl⟩ | exact HR.out | apply Exists.intro)
            · simp [intOf]; omega
          | true =>
            have HP := Lib.hid (Hb.out.1 rfl)
            go_wp2_with fail
            by_cases hh : 1 ≤ c.f (6 + t) ∧ c.f (6 + t) ≤ 2
            rotate_left
            · refine (between_no hh _).mono ?_
              rintro e w5 ⟨rfl, e5⟩
              rw [← e5]
              clear e5
              have HN := Lib.hid hh
              clear hh
              go_wp2_with fail
              have HR := Lib.hid (show RrRel c wr (.bool false) (.int .i64 ((t : Int) + 1)) wr from ⟨t + 1, false, hlt, by simp, rfl, ⟨fun h => Bool.noConfusion h, fun h => absurd (h.l t (by omega)).1 HN.out⟩, rfl⟩)
              refine ⟨?_, ?_⟩
              · (repeat first | exact ⟨HR.out, rfl⟩ | exact HR.out | apply Exists.intro)
              · simp [intOf]; omega
            have G6 := Lib.hid hh
            refine (between_yes hh _).mono ?_
            rintro e w5 ⟨rfl, e5⟩
            rw [← e5]
            clear e5 hh
            go_wp2_with fail
            by_cases hh : 1 ≤ c.f (9 + t) ∧ c.f (9 + t) ≤ 16
            rotate_left
            · refine (between_no hh _).mono ?_
              rintro e w5 ⟨rfl, e5⟩
              rw [← e5]
              clear e5
              have HN := Lib.hid hh
              clear hh
              go_wp2_with fail
              have HR := Lib.hid (show RrRel c wr (.bool false) (.int .i64 ((t : Int) + 1)) wr from ⟨t + 1, false, hlt, by simp, rfl, ⟨fun h => Bool.noConfusion h, fun h => absurd (h.l t (by omega)).2 HN.out⟩, rfl⟩)
              refine ⟨?_, ?_⟩
              · (repeat first | exact ⟨HR.out, rfl⟩ | exact HR.out | apply Exists.intro)
              · simp [intOf]; omega
            have G9 := Lib.hid hh
            refine (between_yes hh _).mono ?_
            rintro e w5 ⟨rfl, e5⟩
            rw [← e5]
            clear e5 hh
            go_wp2_with fail
            have HR := Lib.hid (show RrRel c wr (.bool true) (.int .i64 ((t : Int) + 1)) wr from ⟨t + 1, true, hlt, by simp, rfl, ⟨fun _ => ⟨HP.out.q, fun j hj => by
              rcases Nat.lt_or_ge j t with h | h
              · exact HP.out.l j h
              · obtain rfl : j = t := by omega
                exact ⟨G6.out, G9.out⟩⟩, fun _ => rfl⟩, rfl⟩)
            refine ⟨?_, ?_⟩
            · (repeat first | exact ⟨HR.out, rfl⟩ | exact HR.out | apply Exists.intro)
            · simp [intOf]; omega
        · obtain rfl : t = 3 := by omega
          clear ht hlt
          go_upto_region 7 with fail
          go_cut [3] from 63 to 83 (fun s3 wx => ∃ b : Bool, s3 = .bool b ∧ (b = true ↔ P4 c) ∧ wx = wr)
          case first =>
            cases b with
            | false =>
              go_wp2_with fail
              go_meet
              exact ⟨false, rfl, ⟨fun h => Bool.noConfusion h, fun h => absurd (Hb.out.2 h.q) Bool.false_ne_true⟩, rfl⟩
            | true =>
              have HP := Lib.hid (Hb.out.1 rfl)
              go_wp2_with fail
              by_cases hh : 1 ≤ c.f 12 ∧ c.f 12 ≤ 8
              rotate_left
              · refine (between_no hh _).mono ?_
                rintro e w5 ⟨rfl, e5⟩
                rw [← e5]
                clear e5
                have HN := Lib.hid hh
                clear hh
                go_wp2_with fail
                go_meet
                exact ⟨false, rfl, ⟨fun h => Bool.noConfusion h, fun h => absurd h.p12 HN.out⟩, rfl⟩
              have H12 := Lib.hid hh
              refine (between_yes hh _).mono ?_
              rintro e w5 ⟨rfl, e5⟩
              rw [← e5]
              clear e5 hh
              go_wp2_with fail
              by_cases hh : 1 ≤ c.f 13 ∧ c.f 13 ≤ 100
              rotate_left
              · refine (between_no hh _).mono ?_
                rintro e w5 ⟨rfl, e5⟩
                rw [← e5]
                clear e5
                have HN := Lib.hid hh
                clear hh
                go_wp2_with fail
                go_meet
                exact ⟨false, rfl, ⟨fun h => Bool.noConfusion h, fun h => absurd h.p13 HN.out⟩, rfl⟩
              have H13 := Lib.hid hh
              refine (between_yes hh _).mono ?_
              rintro e w5 ⟨rfl, e5⟩
              rw [← e5]
              clear e5 hh
              go_wp2_with fail
              by_cases hh : 0 ≤ c.f 14 ∧ c.f 14 ≤ 16
              rotate_left
              · refine (between_no hh _).mono ?_
                rintro e w5 ⟨rfl, e5⟩
                rw [← e5]
                clear e5
                have HN := Lib.hid hh
                clear hh
                go_wp2_with fail
                go_meet
                exact ⟨false, rfl, ⟨fun h => Bool.noConfusion h, fun h => absurd h.p14 HN.out⟩, rfl⟩
              have H14 := Lib.hid hh
              refine (between_yes hh _).mono ?_
              rintro e w5 ⟨rfl, e5⟩
              rw [← e5]
              clear e5 hh
              go_wp2_with fail
              by_cases hh : 1 ≤ c.f 15 ∧ c.f 15 ≤ 16
              rotate_left
              · refine (between_no hh _).mono ?_
                rintro e w5 ⟨rfl, e5⟩
                rw [← e5]
                clear e5
                have HN := Lib.hid hh
                clear hh
                go_wp2_with fail
                go_meet
                exact ⟨false, rfl, ⟨fun h => Bool.noConfusion h, fun h => absurd h.p15 HN.out⟩, rfl⟩
              have H15 := Lib.hid hh
              refine (between_yes hh _).mono ?_
              rintro e w5 ⟨rfl, e5⟩
              rw [← e5]
              clear e5 hh
              go_wp2_with fail
              go_meet
              exact ⟨true, rfl, ⟨fun _ => ⟨HP.out, H12.out, H13.out, H14.out, H15.out⟩, fun _ => rfl⟩, rfl⟩
          case rest =>
            clear Hb
            obtain ⟨b, rfl, hb, rfl⟩ := hcut
            have Hb := Lib.hid hb
            clear hb
            cases b with
            | false =>
              have Hr := Lib.hid (cfgB_no (c := c) fun p => absurd (Hb.out.2 (P4.of p)) Bool.false_ne_true)
              go_wp2_with fail
              go_ret
              exact ⟨by rw [Hr.out]; rfl, HO.out⟩
            | true =>
              have HP := Lib.hid (Hb.out.1 rfl)
              have HQ := Lib.hid HP.out.q.q.q.p2
              by_cases h5 : c.f 5 = 2
              · have HZ := Lib.hid (show c.f 5 = 2 ∨ c.h.length = 0 from .inl h5)
                have g5 : (c.f 5 == 2) = true := by simp [h5]
                clear h5
                have Hb2 := Lib.hid (show cfgB c = hintsB (c.f 2) c.h from by
                  rw [Bool.eq_iff_iff, cfgB_iff, hintsB_iff]
                  exact ⟨fun p => p.hs, fun p => HP.out.cfg HZ.out p⟩)
                go_wp2_with fail
                refine (rhints_any A n cp c.h (c.f 2) _ (H.out.keep HO.out) HQ.out.1 HQ.out.2).mono ?_
                rintro e w6 ⟨rfl, ho6⟩
                have Ho6 := Lib.hid (HO.out.transN ho6)
                clear ho6
                go_wp2_with fail
                go_ret
                exact ⟨by rw [Hb2.out]; rfl, Ho6.out⟩
              · by_cases h2 : c.h.length = 0
                · have HZ := Lib.hid (show c.f 5 = 2 ∨ c.h.length = 0 from .inr h2)
                  have g5 : (c.f 5 == 2) = false := by simp [h5]
                  have g2 : ((n : Int) == 0) = true := by have := H.out.len; rw [beq_iff_eq]; omega
                  clear h5 h2
                  have Hb2 := Lib.hid (show cfgB c = hintsB (c.f 2) c.h from by
                    rw [Bool.eq_iff_iff, cfgB_iff, hintsB_iff]
                    exact ⟨fun p => p.hs, fun p => HP.out.cfg HZ.out p⟩)
                  go_wp2_with fail
                  refine (rhints_any A n cp c.h (c.f 2) _ (H.out.keep HO.out) HQ.out.1 HQ.out.2).mono ?_
                  rintro e w6 ⟨rfl, ho6⟩
                  have Ho6 := Lib.hid (HO.out.transN ho6)
                  clear ho6
                  go_wp2_with fail
                  go_ret
                  exact ⟨by rw [Hb2.out]; rfl, Ho6.out⟩
                · have HN := Lib.hid (And.intro h5 h2)
                  have g5 : (c.f 5 == 2) = false := by simp [h5]
                  have g2 : ((n : Int) == 0) = false := by have := H.out.len; rw [beq_eq_false_iff_ne]; omega
                  clear h5 h2
                  have Hr := Lib.hid (cfgB_no (c := c) fun p => p.ph.elim HN.out.1 HN.out.2)
                  go_wp2_with fail
                  go_ret
                  exact ⟨by rw [Hr.out]; rfl, HO.out⟩
end
end Go.Proofs.YtodephhlhdbeoaaGreat
