/- A script's bytes: the plain law; the document's Put. Printed by putr.py. -/
import Derived.Test.YtaofjnpmnaohcaaActB
namespace Go.Proofs.Ytaofjnpmnaohcaa
open Go.RowKit
set_option linter.unusedVariables false
set_option linter.unusedSimpArgs false
structure ScriptP (c : CfgA) (l : List ActR) : Prop where
  conf : CfgP c
  few : l.length ≤ 1000
  acts : ∀ i, i < l.length → ActP (l.getD i default)
def headB (c : CfgA) : List Int := encN (confB c).length ++ confB c
def scriptB (c : CfgA) (l : List ActR) : List Int := headB c ++ restB l
def preB (c : CfgA) (l : List ActR) (k : Nat) : List Int := headB c ++ encN l.length ++ actsB (l.take k)
theorem preB_zero (c : CfgA) (l : List ActR) : preB c l 0 = headB c ++ encN l.length := by simp [preB, actsB]
theorem preB_all (c : CfgA) (l : List ActR) : preB c l l.length = scriptB c l := by simp [preB, scriptB, restB]
theorem preB_succ (c : CfgA) (l : List ActR) {k : Nat} (hk : k < l.length) : preB c l (k + 1) = preB c l k ++ actB (l.getD k default) := by
  unfold preB actsB
  rw [List.take_add_one, List.map_append, List.flatten_append]
  simp [List.getD, hk]
theorem actB_len {a : ActR} (h : a.data.length ≤ 64) : (actB a).length ≤ 109 := by
  unfold actB
  simp only [List.length_append]
  have h0 := (encN_len a.kind.toNat).2; have h1 := (encN_len (foldedN a.a)).2; have h2 := (encN_len (foldedN a.b)).2; have h3 := (encN_len (foldedN a.n)).2; have h4 := (encN_len a.data.length).2
  omega
theorem headB_len {c : CfgA} (h : CfgP c) : (headB c).length ≤ 386 := by
  unfold headB
  have h0 := (encN_len (confB c).length).2; have h1 := confB_len c h.hs.2.2
  rw [List.length_append]; omega
theorem preB_len {c : CfgA} {l : List ActR} (hc : CfgP c) : ∀ k, k ≤ l.length → (∀ j, j < k → ActP (l.getD j default)) → (preB c l k).length ≤ 395 + 109 * k
  | 0, _, _ => by
    rw [preB_zero, List.length_append]
    have := headB_len hc; have := (encN_len l.length).2; omega
  | k + 1, hk, hl => by
    rw [preB_succ c l hk, List.length_append]
    have := preB_len hc k (by omega) fun j hj => hl j (by omega)
    have := actB_len (hl k (by omega)).2.2.2.2
    omega
theorem scriptB_len {c : CfgA} {l : List ActR} (h : ScriptP c l) : (scriptB c l).length ≤ 109395 := by
  rw [← preB_all]
  have := preB_len h.conf l.length (Nat.le_refl _) h.acts
  have := h.few
  omega
/-- the bytes, or refused -/
def PutOut (t : IntKind) (c : CfgA) (l : List ActR) (w : World) (e : Ending) (w' : World) : Prop :=
  (ScriptP c l ∧ (∃ v, e = .returned (.tuple #[v, .int t 0]) ∧ Row 5 w' v (bytes (scriptB c l))) ∨ ¬ ScriptP c l ∧ e = .returned (.tuple #[.slice none 0 0, .int t 6])) ∧ Only Non w w'
def RqRel (c : CfgA) (l : List ActR) (w0 w5 : World) (b i : Value) (wr : World) : Prop := ∃ k : Nat, k ≤ l.length ∧ i = .int .i64 k ∧ (∀ j, j < k → ActP (l.getD j default)) ∧ Bld w5 wr b (preB c l k)
section
set_option maxHeartbeats 2000000
set_option maxRecDepth 100000
theorem refput25_any (A : Option Addr) (n cp : Nat) (c : CfgA) (B : Option Addr) (m cb : Nat) (l : List ActR) (w : World) (h : HintsAt w A n cp c.h) (hl : ActsAt w B m cb l) :
    Calls Try.prog 8 #[.agg (cfgCells c (.slice A n cp)), .slice B m cb] w (PutOut .i64 c l w) := by
  have hnl : n = c.h.length := h.len
  have hcpn : n ≤ cp := h.cap
  have hmx : cp ≤ maxLen := h.max
  have hml : m = l.length := hl.len
  have hmc : m ≤ cb := hl.cap
  have hmm : cb ≤ maxLen := hl.max
  unfold maxLen at hmx hmm
  subst hnl
  subst hml
  have HO := Lib.hid (show Only Non w (w.alloc (.cells (cfgCells c (.slice A c.h.length cp)) 25)) from (Only.refl _ _).alloc _)
  have HH := Lib.hid (h.keep HO.out)
  have HL := Lib.hid hl
  clear h hl
  go_enter Try.func8, Try.ntmps8
  go_upto_region 1 with fail
  have HB1 := Lib.hid (Box.fresh w 25 (cfgCells c (.slice A c.h.length cp)))
  generalize hw1 : w.alloc (.cells (cfgCells c (.slice A c.h.length cp)) 25) = w1 at *
  clear hw1
  have x0 := HB1.out.cellAt (cfgCells_at c (.slice A c.h.length cp) (i := 0) (by omega))
  have x1 := HB1.out.cellAt (cfgCells_at c (.slice A c.h.length cp) (i := 1) (by omega))
  have x2 := HB1.out.cellAt (cfgCells_at c (.slice A c.h.length cp) (i := 2) (by omega))
  have x3 := HB1.out.cellAt (cfgCells_at c (.slice A c.h.length cp) (i := 3) (by omega))
  have x4 := HB1.out.cellAt (cfgCells_at c (.slice A c.h.length cp) (i := 4) (by omega))
  have x5 := HB1.out.cellAt (cfgCells_at c (.slice A c.h.length cp) (i := 5) (by omega))
  have x6 := HB1.out.cellAt (cfgCells_at c (.slice A c.h.length cp) (i := 6) (by omega))
  have x7 := HB1.out.cellAt (cfgCells_at c (.slice A c.h.length cp) (i := 7) (by omega))
  have x8 := HB1.out.cellAt (cfgCells_at c (.slice A c.h.length cp) (i := 8) (by omega))
  have x9 := HB1.out.cellAt (cfgCells_at c (.slice A c.h.length cp) (i := 9) (by omega))
  have x10 := HB1.out.cellAt (cfgCells_at c (.slice A c.h.length cp) (i := 10) (by omega))
  have x11 := HB1.out.cellAt (cfgCells_at c (.slice A c.h.length cp) (i := 11) (by omega))
  have x12 := HB1.out.cellAt (cfgCells_at c (.slice A c.h.length cp) (i := 12) (by omega))
  have x13 := HB1.out.cellAt (cfgCells_at c (.slice A c.h.length cp) (i := 13) (by omega))
  have x14 := HB1.out.cellAt (cfgCells_at c (.slice A c.h.length cp) (i := 14) (by omega))
  have x15 := HB1.out.cellAt (cfgCells_at c (.slice A c.h.length cp) (i := 15) (by omega))
  have x16 := HB1.out.cellAt (cfgCells_hs c (.slice A c.h.length cp))
  by_cases hc : CfgP c
  rotate_left
  · have Hno := Lib.hid (show ¬ ScriptP c l from fun k => hc k.conf)
    have HC := Lib.hid hc
    clear hc
    go_wp2_with fail
    refine (refconf_no A _ cp c w1 HH.out HC.out).mono ?_
    rintro e w2 ⟨rfl, ho2⟩
    have Ho2 := Lib.hid (HO.out.transN ho2)
    clear ho2
    go_wp2_with fail
    go_ret2
    exact ⟨.inr ⟨Hno.out, rfl⟩, Ho2.out⟩
  have HC := Lib.hid hc
  have Hcl := Lib.hid (confB_len c hc.hs.2.2)
  clear hc
  go_wp2_with fail
  refine (refconf_yes A _ cp c w1 HH.out HC.out).mono ?_
  rintro e w2 ⟨v2, rfl, hrow2, ho2⟩
  have Ho2 := Lib.hid (HO.out.transN ho2)
  have Hby2 := Lib.hid (hrow2.byt (by have := Hcl.out; omega))
  clear hrow2 ho2
  clear x0 x1 x2 x3 x4 x5 x6 x7 x8 x9 x10 x11 x12 x13 x14 x15 x16
  by_cases hf : l.length ≤ 1000
  rotate_left
  · have Hno := Lib.hid (show ¬ ScriptP c l from fun k => hf k.few)
    have hf2 : ¬ (l.length : Int) ≤ 1000 := by omega
    have hf3 : (1000 : Int) < l.length := by omega
    clear hf
    go_wp2_with fail
    go_ret2
    exact ⟨.inr ⟨Hno.out, rfl⟩, Ho2.out⟩
  have hf3 : ¬ (1000 : Int) < l.length := by omega
  go_wp2_with fail
  refine (reftext_any v2 (confB c) w2 Hby2.out (by have := Hcl.out; omega)).mono ?_
  rintro e w3 ⟨v3, rfl, hrow3, ho3, hown3⟩
  have Hb3 := Lib.hid (show Bld w2 w3 v3 (headB c) from ⟨hrow3, ho3, hown3⟩)
  clear hrow3 ho3 hown3
  go_wp2_with fail
  refine (refput_any l.length w3 (by omega)).mono ?_
  rintro e w4 ⟨v4, rfl, hrow4, ho4, hown4⟩
  have Hb4 := Lib.hid (Hb3.out.only ho4)
  have Hr4 := Lib.hid hrow4
  clear hrow4 ho4 hown4
  go_upto_region 6 with (at_builtin; refine wpList_bld w2 w4 rfl (.tmp 24) (.tmp 27) rfl _ _ rfl Hb4.out _ _ rfl Hr4.out (by have := headB_len HC.out; have := (encN_len l.length).2; omega) ?_; intro v5 w5 hb5 _; have Hb5 := Lib.hid hb5; clear hb5)
  have HS := Lib.hid (show RqRel c l w w2 v5 (.int .i64 0) w5 from ⟨0, Nat.zero_le _, rfl, fun j hj => absurd hj (Nat.not_lt_zero _), by rw [preB_zero]; exact Hb5.out⟩)
  clear Hb3 Hb4 Hr4 Hb5 Hby2 HB1 HH
  go_wp2_with fail
  go_loopw [8, 9] (fun b i wr => RqRel c l w w2 b i wr) (fun _ i _ => l.length - (intOf i).toNat)
  case atStart => exact HS.out
  case round =>
    clear HS
    obtain ⟨k, hk, rfl, hlk, hb⟩ := hrel
    have Hlk := Lib.hid hlk
    have Hb := Lib.hid hb
    have HA := Lib.hid (HL.out.keep (Ho2.out.transN hb.2.1))
    clear hlk hb
    by_cases hlt : k < l.length
    · obtain ⟨g, o, dA, dc, rfl, hg, x0, x1, x2, x3, x4, x5⟩ := HA.out.at_ k hlt
      have hltb : (k : Int) < l.length := by omega
      have Hlt := Lib.hid hlt
      have Hsc := Lib.hid (preB_succ c l hlt)
      have Hln := Lib.hid (preB_len HC.out k hk Hlk.out)
      generalize hx : l.getD k default = a at *
      have Hx := Lib.hid hx
      have HD := Lib.hid x5
      have hdm := x5.len.2
      have HR := Lib.hid (refright_any a dA _ dc wr rfl (by unfold maxLen; omega))
      clear hx x5
      by_cases hp : ActP a
      · rw [okAct_yes hp] at HR
        have HP := Lib.hid hp
        clear hp
        go_wp2_with fail
        refine HR.out.mono ?_
        rintro e y1 ⟨rfl, ho⟩
        have Hb1 := Lib.hid (Hb.out.only ho)
        have HD1 := Lib.hid (HD.out.only ho fun _ _ => id)
        obtain ⟨g', o', dA', dc', e', hg', z0, z1, z2, z3, z4, z5⟩ := (HA.out.keep ho).at_ k Hlt.out
        injection e' with e'
        injection e' with e1 e2
        subst e1
        subst e2
        rw [Hx.out] at z0 z1 z2 z3 z4
        have e4 : Value.slice dA' a.data.length dc' = Value.slice dA a.data.length dc := by
          have := ho.cell x4 id
          rw [z4] at this
          injection this
        rw [e4] at z4
        clear ho x0 x1 x2 x3 x4 z5 e4 hg' HR
        have HT := Lib.hid (act_any a dA _ dc y1 rfl HD1.out HP.out)
        go_wp2_with fail
        refine HT.out.mono ?_
        rintro e y2 ⟨u2, rfl, hrow, ho, hown⟩
        have Hb2 := Lib.hid (Hb1.out.only ho)
        have Hr2 := Lib.hid hrow
        clear hrow ho hown z0 z1 z2 z3 z4
        go_wp2_with (at_builtin; refine wpList_bld w2 y2 rfl (.tmp 41) (.tmp 46) rfl _ _ rfl Hb2.out _ _ rfl Hr2.out (by have := Hln.out; have := actB_len HP.out.2.2.2.2; omega) ?_; intro v6 w6 hb6 _; have Hb6 := Lib.hid hb6; clear hb6)
        have HRR := Lib.hid (show RqRel c l w w2 v6 (.int .i64 ((k : Int) + 1)) w6 from ⟨k + 1, Hlt.out, by simp, fun j hj => by
          rcases Nat.lt_or_ge j k with h | h
          · exact Hlk.out j h
          · obtain rfl : j = k := by omega
            rw [Hx.out]; exact HP.out, by rw [Hsc.out]; exact Hb6.out⟩)
        refine ⟨?_, ?_⟩
        · (repeat first | exact ⟨HRR.out, rfl⟩ | exact HRR.out | apply Exists.intro)
        · simp [intOf]; omega
      · rw [okAct_no hp] at HR
        have Hno := Lib.hid (show ¬ ScriptP c l from fun q => hp (by rw [← Hx.out]; exact q.acts k Hlt.out))
        clear hp
        go_wp2_with fail
        refine HR.out.mono ?_
        rintro e y1 ⟨rfl, ho⟩
        have HOF := Lib.hid (Ho2.out.transN (Hb.out.2.1.transN ho))
        clear ho
        go_wp2_with fail
        go_ret2
        exact ⟨.inr ⟨Hno.out, rfl⟩, HOF.out⟩
    · obtain rfl : k = l.length := by omega
      have HF := Lib.hid (show Row 5 wr _ (bytes (scriptB c l)) from by rw [← preB_all]; exact Hb.out.1)
      have HS := Lib.hid (show ScriptP c l from ⟨HC.out, hf, Hlk.out⟩)
      have HOF := Lib.hid (Ho2.out.transN Hb.out.2.1)
      clear hlt hk
      go_wp2_with fail
      go_ret2
      exact ⟨.inl ⟨HS.out, _, rfl, HF.out⟩, HOF.out⟩
end
end Go.Proofs.Ytaofjnpmnaohcaa
