/- conf.Put. Printed by cfgf.py. -/
import Derived.Test.YtaofjnpmnaohcaaCfgE
import Derived.Test.YtaofjnpmnaohcaaCfgL
import Derived.Deep.CutRange
namespace Go.Proofs.Ytaofjnpmnaohcaa
open Go.RowKit
set_option linter.unusedVariables false
set_option linter.unusedSimpArgs false
theorem run_index_ptr {P : Program} (w : World) (t e e' : TypeId) (n : Nat) (cs : Array Value) (k : IntKind) (i : Int) (v : Value) (ht : P.underlying t = some (.array n e))
    (hp : P.underlying e = some (.pointer e')) (hs : (P.info? e).map (·.size) = some 1) (h0 : 0 ≤ i) (h1 : i < n) (hv : cs[i.toNat]? = some v) : (Instr.index t (.agg cs) (.int k i)).run P w = .ok v w := by
  have hpt : (part e cs i.toNat).run P w = .ok v w := by simp [part, isAgg, run_underlying hp, hv]
  cases hq : P.info? e with
  | none => simp [hq] at hs
  | some d =>
    have hsz : d.size = 1 := by simpa [hq] using hs
    simp [Instr.index, asIntOf, run_underlying ht, h0, h1, sizeOf, typeInfo, hq, hsz, hpt]
def CpRel1 (c : CfgA) (w1 : World) (b i : Value) (wr : World) : Prop := ∃ k : Nat, k ≤ 16 ∧ i = .int .i64 k ∧ Row 5 wr b (bytes (numsB c.f k)) ∧ Only Non w1 wr
def CpRel2 (c : CfgA) (w1 : World) (b i : Value) (wr : World) : Prop := ∃ k : Nat, k ≤ c.h.length ∧ i = .int .i64 k ∧ Row 5 wr b (bytes (confH c ++ hsB c.h k)) ∧ Only Non w1 wr
def CpRel3 (h : HintA) (pre : List Int) (w1 : World) (b i : Value) (wr : World) : Prop := ∃ k : Nat, k ≤ 3 ∧ i = .int .i64 k ∧ Row 5 wr b (bytes (pre ++ numsB (hn h) k)) ∧ Only Non w1 wr
section
set_option maxHeartbeats 2000000
set_option maxRecDepth 100000
theorem confput_no (A : Option Addr) (n cp : Nat) (c : CfgA) (w : World) (h : HintsAt w A n cp c.h) (hc : ¬ CfgP c) :
    Calls Try.prog 14 #[.agg (cfgCells c (.slice A n cp))] w fun e w' => e = .returned (.tuple #[.slice none 0 0, .int .i64 6]) ∧ Only Non w w' := by
  have HO := Lib.hid (show Only Non w (w.alloc (.cells (cfgCells c (.slice A n cp)) 25)) from (Only.refl _ _).alloc _)
  have HR := Lib.hid (right_any A n cp c (w.alloc (.cells (cfgCells c (.slice A n cp)) 25)) (h.keep HO.out))
  rw [cfgB_no hc] at HR
  clear h hc
  go_enter Try.func14, Try.ntmps14
  go_upto_region 1 with fail
  have HB1 := Lib.hid (Box.fresh w 25 (cfgCells c (.slice A n cp)))
  generalize hw1 : w.alloc (.cells (cfgCells c (.slice A n cp)) 25) = w1 at *
  clear hw1
  have x0 := HB1.out.cellAt (cfgCells_at c (.slice A n cp) (i := 0) (by omega))
  have x1 := HB1.out.cellAt (cfgCells_at c (.slice A n cp) (i := 1) (by omega))
  have x2 := HB1.out.cellAt (cfgCells_at c (.slice A n cp) (i := 2) (by omega))
  have x3 := HB1.out.cellAt (cfgCells_at c (.slice A n cp) (i := 3) (by omega))
  have x4 := HB1.out.cellAt (cfgCells_at c (.slice A n cp) (i := 4) (by omega))
  have x5 := HB1.out.cellAt (cfgCells_at c (.slice A n cp) (i := 5) (by omega))
  have x6 := HB1.out.cellAt (cfgCells_at c (.slice A n cp) (i := 6) (by omega))
  have x7 := HB1.out.cellAt (cfgCells_at c (.slice A n cp) (i := 7) (by omega))
  have x8 := HB1.out.cellAt (cfgCells_at c (.slice A n cp) (i := 8) (by omega))
  have x9 := HB1.out.cellAt (cfgCells_at c (.slice A n cp) (i := 9) (by omega))
  have x10 := HB1.out.cellAt (cfgCells_at c (.slice A n cp) (i := 10) (by omega))
  have x11 := HB1.out.cellAt (cfgCells_at c (.slice A n cp) (i := 11) (by omega))
  have x12 := HB1.out.cellAt (cfgCells_at c (.slice A n cp) (i := 12) (by omega))
  have x13 := HB1.out.cellAt (cfgCells_at c (.slice A n cp) (i := 13) (by omega))
  have x14 := HB1.out.cellAt (cfgCells_at c (.slice A n cp) (i := 14) (by omega))
  have x15 := HB1.out.cellAt (cfgCells_at c (.slice A n cp) (i := 15) (by omega))
  have x16 := HB1.out.cellAt (cfgCells_hs c (.slice A n cp))
  go_wp2_with fail
  refine HR.out.mono ?_
  rintro e w2 ⟨rfl, ho1⟩
  have Ho1 := Lib.hid (HO.out.transN ho1)
  clear ho1
  go_wp2_with fail
  go_ret2
  exact ⟨rfl, Ho1.out⟩
theorem confput_yes (A : Option Addr) (n cp : Nat) (c : CfgA) (w : World) (h : HintsAt w A n cp c.h) (hc : CfgP c) :
    Calls Try.prog 14 #[.agg (cfgCells c (.slice A n cp))] w fun e w' => ∃ v, e = .returned (.tuple #[v, .int .i64 0]) ∧ Row 5 w' v (bytes (confB c)) ∧ Only Non w w' := by
  have HO := Lib.hid (show Only Non w (w.alloc (.cells (cfgCells c (.slice A n cp)) 25)) from (Only.refl _ _).alloc _)
  have HR := Lib.hid (right_any A n cp c (w.alloc (.cells (cfgCells c (.slice A n cp)) 25)) (h.keep HO.out))
  rw [cfgB_yes hc] at HR
  have H := Lib.hid h
  have HC := Lib.hid hc
  have h8 : c.h.length ≤ 8 := hc.hs.2.2
  have hnl : n = c.h.length := h.len
  have hcpn : n ≤ cp := h.cap
  have hmx : cp ≤ maxLen := h.max
  unfold maxLen at hmx
  subst hnl
  clear h hc
  go_enter Try.func14, Try.ntmps14
  go_upto_region 1 with fail
  have HB1 := Lib.hid (Box.fresh w 25 (cfgCells c (.slice A c.h.length cp)))
  generalize hw1 : w.alloc (.cells (cfgCells c (.slice A c.h.length cp)) 25) = w1 at *
  clear hw1
  have x0 := HB1.out.cellAt (cfgCells_at c (.slice A c.h.length cp) (i := 0) (by omega))
  have x1 := HB1.out.cellAt (cfgCells_at c (.slice A c.h.length cp) (i := 1) (by omega))
  have x2 := HB1.out.cellAt (cfgCells_at c (.slice A c.h.length cp) (i := 2) (by omega))
  have x3 := HB1.out.cellAt (cfgCells_at c (.slice A c.h.length cp) (i := 3) (by omega))
  have x4 := HB1.out.cellAt (cfgCells_at c (.slice A c.h.length cp) (i := 4) (by omega))
  have x5 := HB1.out.cellAt (cfgCells_at c (.slice A c.h.length cp) (i := 5) (by omega))
  have x6 := HB1.out.cellAt (cfgCells_at c (.slice A c.h.length cp) (i := 6) (by omega))
  have x7 := HB1.out.cellAt (cfgCells_at c (.slice A c.h.length cp) (i := 7) (by omega))
  have x8 := HB1.out.cellAt (cfgCells_at c (.slice A c.h.length cp) (i := 8) (by omega))
  have x9 := HB1.out.cellAt (cfgCells_at c (.slice A c.h.length cp) (i := 9) (by omega))
  have x10 := HB1.out.cellAt (cfgCells_at c (.slice A c.h.length cp) (i := 10) (by omega))
  have x11 := HB1.out.cellAt (cfgCells_at c (.slice A c.h.length cp) (i := 11) (by omega))
  have x12 := HB1.out.cellAt (cfgCells_at c (.slice A c.h.length cp) (i := 12) (by omega))
  have x13 := HB1.out.cellAt (cfgCells_at c (.slice A c.h.length cp) (i := 13) (by omega))
  have x14 := HB1.out.cellAt (cfgCells_at c (.slice A c.h.length cp) (i := 14) (by omega))
  have x15 := HB1.out.cellAt (cfgCells_at c (.slice A c.h.length cp) (i := 15) (by omega))
  have x16 := HB1.out.cellAt (cfgCells_hs c (.slice A c.h.length cp))
  go_wp2_with fail
  refine HR.out.mono ?_
  rintro e w2 ⟨rfl, ho2⟩
  have Ho2 := Lib.hid (HO.out.transN ho2)
  have HB2 := Lib.hid (ho2.box HB1.out id)
  clear ho2
  clear HR x0 x1 x2 x3 x4 x5 x6 x7 x8 x9 x10 x11 x12 x13 x14 x15 x16
  go_wp2_with fail
  refine (places_any _ _).mono ?_
  rintro e w3 ⟨rfl, ho3⟩
  have Ho3 := Lib.hid (Ho2.out.transN ho3)
  have HB3 := Lib.hid (ho3.box HB2.out id)
  clear ho3
  go_wp2_with fail
  go_loopw [4, 15] (fun b i wr => CpRel1 c w3 b i wr) (fun _ i _ => 16 - (intOf i).toNat)
  case atStart => exact ⟨0, by omega, rfl, Row.nil_ _ _, Only.refl _ _⟩
  case round =>
    obtain ⟨k, hk, rfl, hrow, ho⟩ := hrel
    obtain ⟨Bb, qb, eb, _, _⟩ := hrow.shape
    have Hrow := Lib.hid hrow
    have Ho := Lib.hid ho
    have HBk := Lib.hid (ho.box HB3.out id)
    clear hrow ho
    by_cases hlt : k < 16
    · have hlti : (k : Int) < 16 := by omega
      have hN : c.f k = ((c.f k).toNat : Nat) := by have := (HC.out.range k hlt).1; omega
      have xk : wr.cell? ⟨w.heap.size, k, none⟩ = some (.int .i64 ((c.f k).toNat : Nat)) := by rw [← hN]; exact HBk.out.cellAt (cfgCells_at c _ hlt)
      have hsp : (spots w.heap.size)[k]? = some (.pointer (some ⟨w.heap.size, k, none⟩)) := by
        unfold spots
        rcases (show k = 0 ∨ k = 1 ∨ k = 2 ∨ k = 3 ∨ k = 4 ∨ k = 5 ∨ k = 6 ∨ k = 7 ∨ k = 8 ∨ k = 9 ∨ k = 10 ∨ k = 11 ∨ k = 12 ∨ k = 13 ∨ k = 14 ∨ k = 15 from by omega) with rfl | rfl | rfl | rfl | rfl | rfl | rfl | rfl | rfl | rfl | rfl | rfl | rfl | rfl | rfl | rfl <;> rfl
      have HP := Lib.hid (rawput_any _ (numsB c.f k) (c.f k).toNat wr (Hrow.out.byt (by have := numsB_len c.f k; omega)) (by have := numsB_len c.f k; omega) (by have := (HC.out.range k hlt).2; omega))
      clear hN
      generalize hNN : (c.f k).toNat = N at *
      have HN := Lib.hid hNN
      clear hNN
      have hidx := fun w' => run_index_ptr (P := Try.prog) w' 68 64 _ 16 (spots w.heap.size) .i64 k (.pointer (some ⟨w.heap.size, k, none⟩)) Try.underlying68 Try.underlying64 (by kernel_rfl) (by omega) (by omega) (by simpa using hsp)
      clear hsp
      generalize hbl : (bytes (numsB c.f k)).length = nb at *
      have Hbl := Lib.hid hbl
      clear hbl
      subst eb
      go_wp2_with fail
      refine HP.out.mono ?_
      rintro e wr5 ⟨v5, rfl, hrow5, ho5, hown5⟩
      have HR5 := Lib.hid (show CpRel1 c w3 v5 (.int .i64 ((k : Int) + 1)) wr5 from ⟨k + 1, hlt, by simp, by rw [numsB_succ, HN.out]; exact hrow5, Ho.out.transN ho5⟩)
      clear hrow5 ho5 hown5
      go_wp2_with fail
      refine ⟨?_, ?_⟩
      · (repeat first | exact ⟨HR5.out, rfl⟩ | exact HR5.out | apply Exists.intro)
      · simp [intOf]; omega
    · obtain rfl : k = 16 := by omega
      have x12 : wr.cell? ⟨w.heap.size, 16, none⟩ = some (.slice A c.h.length cp) := HBk.out.cellAt (cfgCells_hs c _)
      have HP := Lib.hid (rawput_any _ (numsB c.f 16) c.h.length wr (Hrow.out.byt (by have := numsB_len c.f 16; omega)) (by have := numsB_len c.f 16; omega) (by omega))
      generalize hbl : (bytes (numsB c.f 16)).length = nb at *
      have Hbl := Lib.hid hbl
      clear hbl hlt hk
      subst eb
      go_wp2_with fail
      refine HP.out.mono ?_
      rintro e wr5 ⟨v5, rfl, hrow5, ho5, hown5⟩
      have Ho5 := Lib.hid (Ho.out.transN ho5)
      have Hrow5 := Lib.hid (show Row 5 wr5 v5 (bytes (confH c)) from hrow5)
      have HBk5 := Lib.hid (ho5.box HBk.out id)
      have y12 : wr5.cell? ⟨w.heap.size, 16, none⟩ = some (.slice A c.h.length cp) := HBk5.out.cellAt (cfgCells_hs c _)
      clear hrow5 ho5 hown5 x12
      have Hcp := Lib.hid hcpn
      have Hmx := Lib.hid hmx
      have Hhl := Lib.hid h8
      go_wp2_with fail
      clear y12
      go_loopw [4, 32] (fun b i wr => CpRel2 c w3 b i wr) (fun _ i _ => c.h.length - (intOf i).toNat)
      case atStart => exact ⟨0, Nat.zero_le _, rfl, by rw [hsB_zero, List.append_nil]; exact Hrow5.out, Ho5.out⟩
      case round =>
        clear Hrow5 Ho5 HBk5 Hrow Ho HBk HP Hbl HB1 HB2 HB3
        obtain ⟨k, hk, rfl, hrow, ho⟩ := hrel
        obtain ⟨Bb, qb, eb, _, _⟩ := hrow.shape
        have Hrow := Lib.hid hrow
        have Ho := Lib.hid ho
        have HaW := Lib.hid (H.out.keep (Ho3.out.transN ho))
        clear hrow ho
        by_cases hlt : k < c.h.length
        · obtain ⟨g, o, rfl, hg, x0, x1, x2, x3⟩ := HaW.out.at_ k hlt
          have hltb : (k : Int) < c.h.length := by omega
          have Hlt := Lib.hid hlt
          have Hnn := Lib.hid (okH_nums HC.out.p2.2 (HC.out.hs.1 k hlt))
          have Hpl := Lib.hid (show (confH c ++ hsB c.h k).length ≤ 2000 from by have := confH_len c; have := hsB_len c.h k; rw [List.length_append]; omega)
          have Hsc := Lib.hid (hsB_succ c.h hlt)
          generalize hx : c.h.getD k default = hd at *
          have Hx := Lib.hid hx
          clear hx
          have HHb := Lib.hid (Box.fresh wr 66 #[.int .i64 hd.fr, .int .i64 hd.size, .int .i64 hd.often, .bool hd.loop])
          have HHo := Lib.hid (Ho.out.alloc (.cells #[.int .i64 hd.fr, .int .i64 hd.size, .int .i64 hd.often, .bool hd.loop] 66))
          have HHr := Lib.hid (Hrow.out.only ((Only.refl Non wr).alloc (.cells #[.int .i64 hd.fr, .int .i64 hd.size, .int .i64 hd.often, .bool hd.loop] 66)) fun _ _ => id)
          generalize hbl : (bytes (confH c ++ hsB c.h k)).length = nb at *
          have Hbl := Lib.hid hbl
          clear hbl
          subst eb
          go_wp2_with fail
          generalize wr.alloc (.cells #[.int .i64 hd.fr, .int .i64 hd.size, .int .i64 hd.often, .bool hd.loop] 66) = X at *
          generalize hhb : wr.heap.size = hb at *
          have Hhb := Lib.hid hhb
          clear hhb x0 x1 x2 x3
          go_loopw [4, 43] (fun b i wr => CpRel3 hd (confH c ++ hsB c.h k) X b i wr) (fun _ i _ => 3 - (intOf i).toNat)
          case atStart => exact ⟨0, Nat.zero_le _, rfl, by rw [numsB_zero, List.append_nil]; exact HHr.out, Only.refl _ _⟩
          case round =>
            obtain ⟨q, hq, rfl, hrow, ho⟩ := hrel
            obtain ⟨Bb2, qb2, eb2, _, _⟩ := hrow.shape
            have Hrow2 := Lib.hid hrow
            have Ho2q := Lib.hid ho
            have HHb2 := Lib.hid (ho.box HHb.out id)
            clear hrow ho
            by_cases hq3 : q < 3
            · have hq3i : (q : Int) < 3 := by omega
              have hidx := fun w => run_index_agg (P := Try.prog) w 22 3 3 #[.int .i64 hd.fr, .int .i64 hd.size, .int .i64 hd.often] .i64 q (.int .i64 (hn hd q)) Try.underlying22 (by kernel_rfl) (by kernel_rfl) (by omega) (by omega) (by
                rcases (show q = 0 ∨ q = 1 ∨ q = 2 from by omega) with rfl | rfl | rfl <;> rfl)
              have hN : hn hd q = ((hn hd q).toNat : Nat) := by have := (Hnn.out q hq3).1; omega
              rw [hN] at hidx
              have HP := Lib.hid (rawput_any _ (confH c ++ hsB c.h k ++ numsB (hn hd) q) (hn hd q).toNat wr (Hrow2.out.byt (by have := Hpl.out; have := numsB_len (hn hd) q; rw [List.length_append]; omega)) (by have := Hpl.out; have := numsB_len (hn hd) q; rw [List.length_append]; omega) (by have := (Hnn.out q hq3).2; omega))
              clear hN
              generalize hNN : (hn hd q).toNat = N at *
              have HN := Lib.hid hNN
              clear hNN
              generalize hbl : (bytes (confH c ++ hsB c.h k ++ numsB (hn hd) q)).length = nb2 at *
              have Hbl2 := Lib.hid hbl
              clear hbl
              subst eb2
              go_wp2_with fail
              refine HP.out.mono ?_
              rintro e wr5 ⟨v5, rfl, hrow5, ho5, hown5⟩
              have HR5 := Lib.hid (show CpRel3 hd (confH c ++ hsB c.h k) X v5 (.int .i64 ((q : Int) + 1)) wr5 from ⟨q + 1, hq3, by simp, by rw [numsB_succ, HN.out, ← List.append_assoc]; exact hrow5, Ho2q.out.transN ho5⟩)
              clear hrow5 ho5 hown5
              go_wp2_with fail
              refine ⟨?_, ?_⟩
              · (repeat first | exact ⟨HR5.out, rfl⟩ | exact HR5.out | apply Exists.intro)
              · simp [intOf]; omega
            · obtain rfl : q = 3 := by omega
              have z3 : wr.cell? ⟨hb, 3, none⟩ = some (.bool hd.loop) := HHb2.out.cellAt rfl
              have HP := Lib.hid (puttruth_any _ (confH c ++ hsB c.h k ++ numsB (hn hd) 3) hd.loop wr (Hrow2.out.byt (by have := Hpl.out; have := numsB_len (hn hd) 3; rw [List.length_append]; omega)) (by have := Hpl.out; have := numsB_len (hn hd) 3; rw [List.length_append]; omega))
              generalize hbl : (bytes (confH c ++ hsB c.h k ++ numsB (hn hd) 3)).length = nb2 at *
              have Hbl2 := Lib.hid hbl
              clear hbl
              subst eb2
              clear hq3 hq
              go_wp2_with fail
              refine HP.out.mono ?_
              rintro e wr5 ⟨v5, rfl, hrow5, ho5, hown5⟩
              have HR5 := Lib.hid (show CpRel2 c w3 v5 (.int .i64 ((k : Int) + 1)) wr5 from ⟨k + 1, Hlt.out, by simp, by
                rw [Hsc.out]
                unfold hintB
                rw [← List.append_assoc, ← List.append_assoc]
                exact hrow5, (HHo.out.transN Ho2q.out).transN ho5⟩)
              clear hrow5 ho5 hown5
              go_wp2_with fail
              refine ⟨?_, ?_⟩
              · (repeat first | exact ⟨HR5.out, rfl⟩ | exact HR5.out | apply Exists.intro)
              · simp [intOf]; omega
        · have hkl : k = c.h.length := by omega
          have HF := Lib.hid (show Row 5 wr _ (bytes (confB c)) from by have := Hrow.out; rw [hkl] at this; exact this)
          have Hof := Lib.hid (Ho3.out.transN Ho.out)
          clear hkl
          subst eb
          go_wp2_with fail
          go_ret2
          exact ⟨_, rfl, HF.out, Hof.out⟩
end
end Go.Proofs.Ytaofjnpmnaohcaa
