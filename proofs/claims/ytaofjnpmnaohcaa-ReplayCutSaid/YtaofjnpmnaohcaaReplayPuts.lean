/- ReplayPuts, walked: whatever the configuration and the acts. Printed by rpuw.py. -/
import Derived.Test.YtaofjnpmnaohcaaCopyA
import Derived.Test.YtaofjnpmnaohcaaWake
import Derived.Laws.Tables
import Derived.BigFrame
import Derived.Deep.MidRow
namespace Go.Proofs.Ytaofjnpmnaohcaa
open Go.RowKit
set_option linter.unusedVariables false
set_option linter.unusedSimpArgs false
theorem putOutB_one {c : CfgA} {l : List ActR} {e : Ending} {w' : World} (h : ScriptP c l ∧ (∃ v, e = .returned (.tuple #[v, .int .i64 0]) ∧ Byt w' v (scriptB c l)) ∨ ¬ ScriptP c l ∧ e = .returned (.tuple #[.slice none 0 0, .int .i64 6])) :
    ∃ v ev, e = .returned (.tuple #[v, .int .i64 ev]) ∧ (ScriptP c l ∧ ev = 0 ∧ Byt w' v (scriptB c l) ∨ ¬ ScriptP c l ∧ ev = 6 ∧ v = .slice none 0 0) := by
  rcases h with ⟨h1, v, rfl, h2⟩ | ⟨h1, rfl⟩
  · exact ⟨v, 0, rfl, .inl ⟨h1, rfl, h2⟩⟩
  · exact ⟨_, 6, rfl, .inr ⟨h1, rfl, rfl⟩⟩
theorem build_scr (c : CfgA) (A D : Option Addr) (n m k cd : Nat) (w : World) : (Instr.build 34 #[(0, .agg (cfgCells c (.slice A n m))), (1, .slice D k cd)]).run Try.prog w = .ok (.agg (scrCells c (.slice A n m) (.slice D k cd))) w := run_build w 34 _ _ (by kernel_rfl)
theorem exec_build_scr (c : CfgA) (A D : Option Addr) (n m k cd : Nat) (ρ : Operand → Value) (o : Oper) (x y : Operand) (ho : o.op = .build 34 #[(0, x), (1, y)]) (hx : ρ x = .agg (cfgCells c (.slice A n m))) (hy : ρ y = .slice D k cd) (w : World) :
    (execOp ρ o).run Try.prog w = .ok (.value (.agg (scrCells c (.slice A n m) (.slice D k cd)))) w := by
  unfold execOp
  simp only [ho, List.map_toArray, List.map_cons, List.map_nil, hx, hy, Sem.run_bind, build_scr, Result.andThen_ok, Sem.run_pure]
section
set_option maxHeartbeats 4000000
set_option maxRecDepth 100000
theorem replayPuts_walk (c : CfgA) (l : List ActR) (A B : Option Addr) (m k : Nat) (w : World) (ha : HintsAt w A c.h.length m c.h) (hb : ActsAt w B l.length k l) (hd : ∀ i, i < l.length → IsB (l.getD i default).data) :
    Calls Try.prog 3 #[.agg (cfgCells c (.slice A c.h.length m)), .slice B l.length k] w (Ret (.bool true) Non w) := by
  have HO0 := Lib.hid (show Only Non w (w.alloc (.cells (cfgCells c (.slice A c.h.length m)) 25)) from (Only.refl Non w).alloc _)
  have HX0 := Lib.hid (Box.fresh w 25 (cfgCells c (.slice A c.h.length m)))
  have HA := Lib.hid ha
  have HB := Lib.hid hb
  have HD := Lib.hid hd
  have hkl := hb.cap
  have hkm := hb.max
  unfold maxLen at hkm
  clear ha hb hd
  go_enter Try.func3, Try.ntmps3
  go_upto_region 1 with fail
  change Code.wp _ _ _ _ (w.alloc (.cells (cfgCells c (.slice A c.h.length m)) 25))
  generalize w.alloc (.cells (cfgCells c (.slice A c.h.length m)) 25) = W0 at *
  generalize hxb : w.heap.size = xb at *
  have Hxb := Lib.hid hxb
  clear hxb
  go_wp2_with fail
  refine (wakes25_any W0).mono ?_
  rintro e w1 ⟨rfl, ho1⟩
  have HO1 := Lib.hid (HO0.out.trans ho1)
  have HX1 := Lib.hid (ho1.box HX0.out id)
  clear ho1
  have HLg := Lib.hid (long_any c l A B c.h.length l.length m k 1001 w1 (HA.out.keep HO1.out) (HB.out.keep HO1.out))
  go_wp2_with (refine wpList_load_row rfl 25 _ rfl xb rfl 25 (cfgCells c (.slice A c.h.length m)) (0, 0) _ HX1.out Try.underlying25 rfl (by kernel_rfl) ?_)
  refine HLg.out.mono ?_
  rintro e w2 ⟨lb, rfl, hlb, ho2⟩
  have HO2 := Lib.hid (HO1.out.trans ho2)
  have HX2 := Lib.hid (ho2.box HX1.out id)
  have Hlb := Lib.hid hlb
  clear ho2 hlb
  cases lb with
  | true =>
    go_wp2_with fail
    go_ret
    exact ⟨rfl, HO2.out⟩
  | false =>
    have Hl := Lib.hid (Hlb.out rfl)
    have HB2 := Lib.hid (HB.out.keep HO2.out)
    have HC2 := Lib.hid (HA.out.keep HO2.out)
    go_upto_region 5 with fail
    refine wp_region_tail (S := (fun w' : World => Box w' xb 25 (cfgCells c (.slice A c.h.length m)))) 10 (by kernel_rfl) (by kernel_rfl) ?_ ?_
    · first | exact HX2.out | exact Box.alloc (show Box w2.drew xb _ _ from HX2.out) _ | exact HX3.out | exact HX4.out | assumption
    intro hSS
    refine wpHd_take (i := 0) (v := .agg (cfgCells c (.slice A c.h.length m))) (by kernel_rfl) rfl (by kernel_rfl) (fun _ _ _ h => h) (yieldsIf_load_mid (by rfl) 25 _ rfl xb 0 (by rfl) (cfgCells c (.slice A c.h.length m)).toList _ (fun w' h j v hj => by rw [Nat.zero_add]; exact Box.cellAt h (by simpa using hj)) Try.underlying25 rfl (by kernel_rfl)) (by assumption) ?_
    try simp only [Act.put, List.getElem_toArray, List.getElem_cons_succ, List.getElem_cons_zero, List.setIfInBounds_toArray, List.set_cons_zero, List.set_cons_succ]
    refine wpHd_take (i := 2) (v := ?_) (by kernel_rfl) rfl (by kernel_rfl) (fun _ _ _ h => h) (Or.inl ⟨by rfl, ?_⟩) (by assumption) ?_
    rotate_left
    · intro w hSw; (try dsimp only at hSw); go_simp; (try with_reducible rfl)
    try simp only [Act.put, List.getElem_toArray, List.getElem_cons_succ, List.getElem_cons_zero, List.setIfInBounds_toArray, List.set_cons_zero, List.set_cons_succ]
    refine wpHd_one (i := 1) rfl (by kernel_rfl) (fun K hK => ?_)
    go_simp
    skip
    refine hK.out _ _ ?_ (fun hSS => ?_)
    · first | exact HX2.out | exact Box.alloc (show Box w2.drew xb _ _ from HX2.out) _ | exact HX3.out | exact HX4.out | assumption
    clear hK
    try simp only [Act.put, List.getElem_toArray, List.getElem_cons_succ, List.getElem_cons_zero, List.setIfInBounds_toArray, List.set_cons_zero, List.set_cons_succ]
    refine wpHd_one (i := 3) rfl (by kernel_rfl) (fun K hK => ?_)
    refine wp_append_acts _ _ (by rfl) w2.heap.size (by rfl) (Box.fresh w2.drew 47 #[]) B k l (by rfl) (HB2.out.keep (((Only.refl Non w2).drew).alloc _)) (by have := Hl.out; omega) ?_
    intro D cd w3 hA3 ho3
    have HA3 := Lib.hid hA3
    have ho23 : Only (Just w2.heap.size) w2 w3 := (((Only.refl (Just w2.heap.size) w2).drew).alloc (.cells #[] 47)).trans ho3
    have HX3 := Lib.hid (ho23.box HX2.out (show ¬ xb = w2.heap.size from fun e => by have := HX2.out.lt; omega))
    have HO3 := Lib.hid (HO2.out.trans' ho23 fun j hj => .inr (by have := HO2.out.size; have hj : j = w2.heap.size := hj; omega))
    have HC3 := Lib.hid (HC2.out.only ho23 (fun j hj e => by have e : j = w2.heap.size := e; omega))
    clear hA3 ho3 ho23
    refine hK.out _ _ ?_ (fun hSS => ?_)
    · first | exact HX2.out | exact Box.alloc (show Box w2.drew xb _ _ from HX2.out) _ | exact HX3.out | exact HX4.out | assumption
    clear hK
    try simp only [Act.put, List.getElem_toArray, List.getElem_cons_succ, List.getElem_cons_zero, List.setIfInBounds_toArray, List.set_cons_zero, List.set_cons_succ]
    refine wpHd_take (i := 4) (v := .agg (scrCells c (.slice A c.h.length m) (.slice D l.length cd))) (by kernel_rfl) rfl (by kernel_rfl) (fun _ _ _ h => h) (Or.inl ⟨by rfl, fun w9 _ => exec_build_scr c A D c.h.length m l.length cd _ _ _ _ rfl (by rfl) (by rfl) w9⟩) (by assumption) ?_
    try simp only [Act.put, List.getElem_toArray, List.getElem_cons_succ, List.getElem_cons_zero, List.setIfInBounds_toArray, List.set_cons_zero, List.set_cons_succ]
    refine wpHd_one (i := 5) rfl (by kernel_rfl) (fun K hK => ?_)
    go_simp
    refine (put25_any A c.h.length m c D l.length cd l w3 HC3.out HA3.out).mono ?_
    rintro e w4 ⟨hout, ho4⟩
    obtain ⟨v4, ev, rfl, hcase⟩ := putOutB_one hout
    have HX4 := Lib.hid (ho4.box HX3.out id)
    have HO4 := Lib.hid (HO3.out.transN ho4)
    have Hcase := Lib.hid hcase
    clear ho4 hout hcase
    refine hK.out _ _ ?_ (fun hSS => ?_)
    · first | exact HX2.out | exact Box.alloc (show Box w2.drew xb _ _ from HX2.out) _ | exact HX3.out | exact HX4.out | assumption
    clear hK
    try simp only [Act.put, List.getElem_toArray, List.getElem_cons_succ, List.getElem_cons_zero, List.setIfInBounds_toArray, List.set_cons_zero, List.set_cons_succ]
    refine wpHd_take (i := 6) (v := ?_) (by kernel_rfl) rfl (by kernel_rfl) (fun _ _ _ h => h) (Or.inl ⟨by rfl, ?_⟩) (by assumption) ?_
    rotate_left
    · intro w hSw; (try dsimp only at hSw); go_simp; (try with_reducible rfl)
    try simp only [Act.put, List.getElem_toArray, List.getElem_cons_succ, List.getElem_cons_zero, List.setIfInBounds_toArray, List.set_cons_zero, List.set_cons_succ]
    refine wpHd_take (i := 7) (v := ?_) (by kernel_rfl) rfl (by kernel_rfl) (fun _ _ _ h => h) (Or.inl ⟨by rfl, ?_⟩) (by assumption) ?_
    rotate_left
    · intro w hSw; (try dsimp only at hSw); go_simp; (try with_reducible rfl)
    try simp only [Act.put, List.getElem_toArray, List.getElem_cons_succ, List.getElem_cons_zero, List.setIfInBounds_toArray, List.set_cons_zero, List.set_cons_succ]
    refine wpHd_take (i := 8) (v := ?_) (by kernel_rfl) rfl (by kernel_rfl) (fun _ _ _ h => h) (Or.inl ⟨by rfl, ?_⟩) (by assumption) ?_
    rotate_left
    · intro w hSw; (try dsimp only at hSw); go_simp; (try with_reducible rfl)
    try simp only [Act.put, List.getElem_toArray, List.getElem_cons_succ, List.getElem_cons_zero, List.setIfInBounds_toArray, List.set_cons_zero, List.set_cons_succ]
    refine wpHd_take (i := 9) (v := ?_) (by kernel_rfl) rfl (by kernel_rfl) (fun _ _ _ h => h) (Or.inl ⟨by rfl, ?_⟩) (by assumption) ?_
    rotate_left
    · intro w hSw; (try dsimp only at hSw); go_simp; (try with_reducible rfl)
    try simp only [Act.put, List.getElem_toArray, List.getElem_cons_succ, List.getElem_cons_zero, List.setIfInBounds_toArray, List.set_cons_zero, List.set_cons_succ]
    refine wpHd_end (by kernel_rfl) ?_
    clear hSS
    have hHA4 := HA.out.keep HO4.out
    have hHB4 := HB.out.keep HO4.out
    have HR := Lib.hid (refput25_any A c.h.length m c B l.length k l w4 hHA4 hHB4)
    clear hHA4 hHB4
    go_wp2_with (refine wpList_load_row rfl 25 _ rfl xb rfl 25 (cfgCells c (.slice A c.h.length m)) (0, 0) _ HX4.out Try.underlying25 rfl (by kernel_rfl) ?_)
    refine HR.out.mono ?_
    rintro e w5 ⟨hout, ho5⟩
    have HO5 := Lib.hid (HO4.out.trans ho5)
    have HX5 := Lib.hid (ho5.box HX4.out id)
    have Ho5 := Lib.hid ho5
    clear ho5
    rcases hout with ⟨hsp, v5, rfl, hrow5⟩ | ⟨hsp, rfl⟩
    rotate_left
    · rcases Hcase.out with ⟨h1, _⟩ | ⟨_, rfl, rfl⟩
      · exact absurd h1 hsp
      have HSm := Lib.hid (same_any _ _ _ _ w5 (byt_nil w5) (byt_nil w5))
      rw [decide_eq_true (rfl : ([] : List Int) = [])] at HSm
      clear Hcase hsp
      go_wp2_with fail
      refine HSm.out.mono ?_
      rintro e w6 ⟨rfl, q, e6⟩
      have HO6 := Lib.hid (show Only Non w w6 from by rw [← e6]; exact HO5.out.drewN q)
      clear e6
      go_wp2_with fail
      go_ret
      exact ⟨rfl, HO6.out⟩
    rcases Hcase.out with ⟨_, rfl, hb4⟩ | ⟨h1, _, _⟩
    rotate_left
    · exact absurd hsp h1
    have HSp := Lib.hid hsp
    have Hsl := Lib.hid (scriptB_len hsp)
    have hb45 := hb4.only Ho5.out fun _ _ => id
    have HSm := Lib.hid (same_any _ _ _ _ w5 hb45 (hrow5.byt (by have := Hsl.out; omega)))
    rw [decide_eq_true (rfl : scriptB c l = scriptB c l)] at HSm
    have HB5 := Lib.hid hb45
    obtain ⟨A4, c4, e4, _⟩ := hb4
    clear Hcase hsp hb45 hrow5
    generalize hsl : (scriptB c l).length = sl at *
    have Hsl2 := Lib.hid hsl
    clear hsl
    subst e4
    go_wp2_with fail
    refine HSm.out.mono ?_
    rintro e w6 ⟨rfl, q, e6⟩
    have ho56 : Only Non w5 w6 := by rw [← e6]; exact (Only.refl Non w5).drewN q
    have HO6 := Lib.hid (HO5.out.trans ho56)
    have HX6 := Lib.hid (ho56.box HX5.out id)
    have HG := Lib.hid (get_whole A4 sl c4 c l w6 (HB5.out.only ho56 fun _ _ => id) HSp.out HD.out)
    clear e6 ho56
    go_wp2_with fail
    refine HG.out.mono ?_
    rintro e w7 ⟨B', m', cb', D', cd', rfl, hh7, ha7, ho7⟩
    have HO7 := Lib.hid (HO6.out.trans ho7)
    have HX7' := Lib.hid (ho7.box HX6.out id)
    have HH7 := Lib.hid hh7
    have HA7 := Lib.hid ha7
    clear hh7 ha7 ho7
    unfold scrCells
    go_upto_region 12 with fail
    have HS7 := Lib.hid (Box.fresh w7 34 (scrCells c (.slice B' m' cb') (.slice D' l.length cd')))
    have Ho7 := Lib.hid (show Only Non w7 (w7.alloc (.cells (scrCells c (.slice B' m' cb') (.slice D' l.length cd')) 34)) from (Only.refl Non w7).alloc _)
    change Code.wp _ _ _ _ (w7.alloc (.cells (scrCells c (.slice B' m' cb') (.slice D' l.length cd')) 34))
    generalize w7.alloc (.cells (scrCells c (.slice B' m' cb') (.slice D' l.length cd')) 34) = W7 at *
    generalize w7.heap.size = sb at *
    have HX7 := Lib.hid (Ho7.out.box HX7'.out id)
    have HO7w := Lib.hid (HO7.out.trans Ho7.out)
    have HCs := Lib.hid (csame_any c B' A m' c.h.length cb' m W7 (HH7.out.keep Ho7.out) (HA.out.keep HO7w.out))
    have HRA := Lib.hid (show W7.rangeAt sb 0 (cfgCells c (.slice B' m' cb')).toList from fun j v hj => by
      rw [Nat.zero_add]
      have hj' : (cfgCells c (.slice B' m' cb'))[j]? = some v := by simpa using hj
      have hjl : j < 17 := (Array.getElem?_eq_some_iff.1 hj').1
      by_cases h16 : j < 16
      · rw [cfgCells_at c _ h16] at hj'
        injection hj' with hj'
        subst hj'
        exact HS7.out.cellAt (scrCells_at c _ _ h16)
      · obtain rfl : j = 16 := by omega
        rw [cfgCells_hs] at hj'
        injection hj' with hj'
        subst hj'
        exact HS7.out.cellAt (scrCells_hs c _ _))
    refine wp_region_lit ?_
    refine wpList_step fun K0 hK0 => ?_
    go_simp
    refine hK0 _ _ ?_
    clear hK0
    try simp only [Act.put, List.getElem_toArray, List.getElem_cons_succ, List.getElem_cons_zero, List.setIfInBounds_toArray, List.set_cons_zero, List.set_cons_succ]
    refine wpList_step fun K0 hK0 => ?_
    go_simp
    refine hK0 _ _ ?_
    clear hK0
    try simp only [Act.put, List.getElem_toArray, List.getElem_cons_succ, List.getElem_cons_zero, List.setIfInBounds_toArray, List.set_cons_zero, List.set_cons_succ]
    refine wpList_step fun K0 hK0 => ?_
    go_simp
    refine hK0 _ _ ?_
    clear hK0
    try simp only [Act.put, List.getElem_toArray, List.getElem_cons_succ, List.getElem_cons_zero, List.setIfInBounds_toArray, List.set_cons_zero, List.set_cons_succ]
    refine wpList_step fun K0 hK0 => ?_
    go_simp
    refine hK0 _ _ ?_
    clear hK0
    try simp only [Act.put, List.getElem_toArray, List.getElem_cons_succ, List.getElem_cons_zero, List.setIfInBounds_toArray, List.set_cons_zero, List.set_cons_succ]
    refine BigFrame.wpList_want (by simp [Region.wanted, yielded]) (fun K9 hK9 => wp_load_mid 25 _ rfl sb 0 rfl (cfgCells c (.slice B' m' cb')).toList _ HRA.out Try.underlying25 rfl (by kernel_rfl) (hK9 _ _ ?_))
    try simp only [Act.put, List.getElem_toArray, List.getElem_cons_succ, List.getElem_cons_zero, List.setIfInBounds_toArray, List.set_cons_zero, List.set_cons_succ]
    refine BigFrame.wpList_want (by simp [Region.wanted, yielded]) (fun K9 hK9 => wp_load_row 25 _ rfl xb rfl 25 (cfgCells c (.slice A c.h.length m)) (0, 0) _ HX7.out Try.underlying25 rfl (by kernel_rfl) (hK9 _ _ ?_))
    try simp only [Act.put, List.getElem_toArray, List.getElem_cons_succ, List.getElem_cons_zero, List.setIfInBounds_toArray, List.set_cons_zero, List.set_cons_succ]
    go_wp2_with fail
    refine HCs.out.mono ?_
    rintro e W8 ⟨rfl, ho8⟩
    have HO8 := Lib.hid (HO7w.out.trans ho8)
    have HS8 := Lib.hid (ho8.box HS7.out id)
    have HAs := Lib.hid (asame_any l D' B l.length l.length cd' k W8 (HA7.out.keep (Ho7.out.trans ho8)) (HB.out.keep HO8.out))
    clear ho8
    have z17 : W8.cell? ⟨sb, 17, none⟩ = some (.slice D' l.length cd') := HS8.out.cellAt (scrCells_ls c _ _)
    go_wp2_with fail
    refine HAs.out.mono ?_
    rintro e w9 ⟨rfl, ho9⟩
    have HO9 := Lib.hid (HO8.out.trans ho9)
    clear ho9
    go_wp2_with fail
    go_ret
    exact ⟨rfl, HO9.out⟩
end
end Go.Proofs.Ytaofjnpmnaohcaa
