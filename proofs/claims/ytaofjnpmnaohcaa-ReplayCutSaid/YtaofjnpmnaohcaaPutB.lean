/- replay.Put. Printed by putb.py. -/
import Derived.Test.YtaofjnpmnaohcaaPutA
import Derived.Test.YtaofjnpmnaohcaaCfgF
import Derived.Test.YtaofjnpmnaohcaaTwo
import Derived.Deep.CutRange
namespace Go.Proofs.Ytaofjnpmnaohcaa
open Go.RowKit
set_option linter.unusedVariables false
set_option linter.unusedSimpArgs false
def scrCells (c : CfgA) (hs ls : Value) : Array Value := #[.int .i64 (c.f 0), .int .i64 (c.f 1), .int .i64 (c.f 2), .int .i64 (c.f 3), .int .i64 (c.f 4), .int .i64 (c.f 5), .int .i64 (c.f 6), .int .i64 (c.f 7), .int .i64 (c.f 8), .int .i64 (c.f 9), .int .i64 (c.f 10), .int .i64 (c.f 11), .int .i64 (c.f 12), .int .i64 (c.f 13), .int .i64 (c.f 14), .int .i64 (c.f 15), hs, ls]
theorem scrCells_at (c : CfgA) (hs ls : Value) {i : Nat} (hi : i < 16) : (scrCells c hs ls)[i]? = some (.int .i64 (c.f i)) := by
  unfold scrCells
  rcases (show i = 0 ∨ i = 1 ∨ i = 2 ∨ i = 3 ∨ i = 4 ∨ i = 5 ∨ i = 6 ∨ i = 7 ∨ i = 8 ∨ i = 9 ∨ i = 10 ∨ i = 11 ∨ i = 12 ∨ i = 13 ∨ i = 14 ∨ i = 15 from by omega) with rfl | rfl | rfl | rfl | rfl | rfl | rfl | rfl | rfl | rfl | rfl | rfl | rfl | rfl | rfl | rfl <;> rfl
theorem scrCells_hs (c : CfgA) (hs ls : Value) : (scrCells c hs ls)[16]? = some hs := rfl
theorem scrCells_ls (c : CfgA) (hs ls : Value) : (scrCells c hs ls)[17]? = some ls := rfl
theorem nats_src (w : World) (vs : List Nat) (t : TypeId) : Src (w.alloc (.cells (natsV vs).toArray t)) (some ⟨w.heap.size, 0, none⟩) (natsV vs) := lits_src w (natsV vs) t
theorem byt_nil (w : World) : Byt w (.slice none 0 0) [] := ⟨none, 0, rfl, Nat.le_refl _, Nat.zero_le _, Src.nil_ _ _⟩
def RpRel (c : CfgA) (l : List ActR) (w0 w5 : World) (b i : Value) (wr : World) : Prop := ∃ k : Nat, k ≤ l.length ∧ i = .int .i64 k ∧ (∀ j, j < k → ActP (l.getD j default)) ∧ Byt wr b (preB c l k) ∧ Only Non w5 wr
def PutOutB (c : CfgA) (l : List ActR) (w : World) (e : Ending) (w' : World) : Prop :=
  (ScriptP c l ∧ (∃ v, e = .returned (.tuple #[v, .int .i64 0]) ∧ Byt w' v (scriptB c l)) ∨ ¬ ScriptP c l ∧ e = .returned (.tuple #[.slice none 0 0, .int .i64 6])) ∧ Only Non w w'
section
set_option maxHeartbeats 4000000
set_option maxRecDepth 100000
theorem put25_any (A : Option Addr) (n cp : Nat) (c : CfgA) (B : Option Addr) (m cb : Nat) (l : List ActR) (w : World) (h : HintsAt w A n cp c.h) (hl : ActsAt w B m cb l) :
    Calls Try.prog 7 #[.agg (scrCells c (.slice A n cp) (.slice B m cb))] w (PutOutB c l w) := by
  have hnl : n = c.h.length := h.len
  have hcpn : n ≤ cp := h.cap
  have hmx : cp ≤ maxLen := h.max
  have hml : m = l.length := hl.len
  have hmc : m ≤ cb := hl.cap
  have hmm : cb ≤ maxLen := hl.max
  unfold maxLen at hmx hmm
  subst hnl
  subst hml
  have HO := Lib.hid (show Only Non w (w.alloc (.cells (scrCells c (.slice A c.h.length cp) (.slice B l.length cb)) 34)) from (Only.refl _ _).alloc _)
  have HH := Lib.hid (h.keep HO.out)
  have HL := Lib.hid hl
  clear h hl
  go_enter Try.func7, Try.ntmps7
  go_upto_region 1 with fail
  have HB1 := Lib.hid (Box.fresh w 34 (scrCells c (.slice A c.h.length cp) (.slice B l.length cb)))
  generalize hw1 : w.alloc (.cells (scrCells c (.slice A c.h.length cp) (.slice B l.length cb)) 34) = w1 at *
  clear hw1
  have x0 := HB1.out.cellAt (scrCells_at c (.slice A c.h.length cp) (.slice B l.length cb) (i := 0) (by omega))
  have x1 := HB1.out.cellAt (scrCells_at c (.slice A c.h.length cp) (.slice B l.length cb) (i := 1) (by omega))
  have x2 := HB1.out.cellAt (scrCells_at c (.slice A c.h.length cp) (.slice B l.length cb) (i := 2) (by omega))
  have x3 := HB1.out.cellAt (scrCells_at c (.slice A c.h.length cp) (.slice B l.length cb) (i := 3) (by omega))
  have x4 := HB1.out.cellAt (scrCells_at c (.slice A c.h.length cp) (.slice B l.length cb) (i := 4) (by omega))
  have x5 := HB1.out.cellAt (scrCells_at c (.slice A c.h.length cp) (.slice B l.length cb) (i := 5) (by omega))
  have x6 := HB1.out.cellAt (scrCells_at c (.slice A c.h.length cp) (.slice B l.length cb) (i := 6) (by omega))
  have x7 := HB1.out.cellAt (scrCells_at c (.slice A c.h.length cp) (.slice B l.length cb) (i := 7) (by omega))
  have x8 := HB1.out.cellAt (scrCells_at c (.slice A c.h.length cp) (.slice B l.length cb) (i := 8) (by omega))
  have x9 := HB1.out.cellAt (scrCells_at c (.slice A c.h.length cp) (.slice B l.length cb) (i := 9) (by omega))
  have x10 := HB1.out.cellAt (scrCells_at c (.slice A c.h.length cp) (.slice B l.length cb) (i := 10) (by omega))
  have x11 := HB1.out.cellAt (scrCells_at c (.slice A c.h.length cp) (.slice B l.length cb) (i := 11) (by omega))
  have x12 := HB1.out.cellAt (scrCells_at c (.slice A c.h.length cp) (.slice B l.length cb) (i := 12) (by omega))
  have x13 := HB1.out.cellAt (scrCells_at c (.slice A c.h.length cp) (.slice B l.length cb) (i := 13) (by omega))
  have x14 := HB1.out.cellAt (scrCells_at c (.slice A c.h.length cp) (.slice B l.length cb) (i := 14) (by omega))
  have x15 := HB1.out.cellAt (scrCells_at c (.slice A c.h.length cp) (.slice B l.length cb) (i := 15) (by omega))
  have x16 := HB1.out.cellAt (scrCells_hs c (.slice A c.h.length cp) (.slice B l.length cb))
  have x17 := HB1.out.cellAt (scrCells_ls c (.slice A c.h.length cp) (.slice B l.length cb))
  by_cases hc : CfgP c
  rotate_left
  · have Hno := Lib.hid (show ¬ ScriptP c l from fun k => hc k.conf)
    have HC := Lib.hid hc
    clear hc
    go_wp2_with fail
    refine (confput_no A _ cp c w1 HH.out HC.out).mono ?_
    rintro e w2 ⟨rfl, ho2⟩
    have Ho2 := Lib.hid (HO.out.transN ho2)
    clear ho2
    go_wp2_with fail
    go_ret2
    exact ⟨.inr ⟨Hno.out, rfl⟩, Ho2.out⟩
  have HC := Lib.hid hc
  have Hcl := Lib.hid (confB_len c hc.hs.2.2)
  clear hc
  go_wp2_with fail
  refine (confput_yes A _ cp c w1 HH.out HC.out).mono ?_
  rintro e w2 ⟨v2, rfl, hrow2, ho2⟩
  have Ho2 := Lib.hid (HO.out.transN ho2)
  have Hby2 := Lib.hid (hrow2.byt (by have := Hcl.out; omega))
  have HB2 := Lib.hid (ho2.box HB1.out id)
  clear hrow2 ho2
  clear x0 x1 x2 x3 x4 x5 x6 x7 x8 x9 x10 x11 x12 x13 x14 x15 x16 x17
  have x17 := HB2.out.cellAt (scrCells_ls c (.slice A c.h.length cp) (.slice B l.length cb))
  by_cases hf : l.length ≤ 1000
  rotate_left
  · have Hno := Lib.hid (show ¬ ScriptP c l from fun k => hf k.few)
    have hf2 : ¬ (l.length : Int) ≤ 1000 := by omega
    have hf3 : (1000 : Int) < l.length := by omega
    clear hf
    go_wp2_with fail
    go_ret2
    exact ⟨.inr ⟨Hno.out, rfl⟩, Ho2.out⟩
  have hf3 : ¬ (1000 : Int) < l.length := by omega
  have Hv := Lib.hid (show ∀ k, k < [l.length].length → [l.length].getD k 0 < 2 ^ 63 from fun k hk => by
    obtain rfl : k = 0 := by simpa using hk
    show l.length < 2 ^ 63
    omega)
  go_upto_region 4 with fail
  go_cut [6] from 23 (fun s6 wx => Byt wx s6 (headB c ++ encN l.length) ∧ Only Non w2 wx)
  case first =>
    refine wp_region_tail (S := (fun w' : World => w'.cell? ⟨w.heap.size, 17, none⟩ = some (.slice B l.length cb))) 6 (by kernel_rfl) (by kernel_rfl) ?_ ?_
    · first | go_keep | assumption
    intro hSS
    refine wpHd_take (i := 0) (v := ?_) (by kernel_rfl) rfl (by kernel_rfl) (fun _ _ _ h => h) (Or.inl ⟨by rfl, ?_⟩) (by assumption) ?_
    rotate_left
    · intro w hSw; (try dsimp only at hSw); go_simp; (try with_reducible rfl)
    try simp only [Act.put, List.getElem_toArray, List.getElem_cons_succ, List.getElem_cons_zero, List.setIfInBounds_toArray, List.set_cons_zero, List.set_cons_succ]
    refine wpHd_take (i := 2) (v := ?_) (by kernel_rfl) rfl (by kernel_rfl) (fun _ _ _ h => h) (Or.inl ⟨by rfl, ?_⟩) (by assumption) ?_
    rotate_left
    · intro w hSw; (try dsimp only at hSw); go_simp; (try with_reducible rfl)
    try simp only [Act.put, List.getElem_toArray, List.getElem_cons_succ, List.getElem_cons_zero, List.setIfInBounds_toArray, List.set_cons_zero, List.set_cons_succ]
    refine wpHd_take (i := 3) (v := ?_) (by kernel_rfl) rfl (by kernel_rfl) (fun _ _ _ h => h) (Or.inl ⟨by rfl, ?_⟩) (by assumption) ?_
    rotate_left
    · intro w hSw; (try dsimp only at hSw); go_simp; (try with_reducible rfl)
    try simp only [Act.put, List.getElem_toArray, List.getElem_cons_succ, List.getElem_cons_zero, List.setIfInBounds_toArray, List.set_cons_zero, List.set_cons_succ]
    refine wpHd_take (i := 4) (v := ?_) (by kernel_rfl) rfl (by kernel_rfl) (fun _ _ _ h => h) (Or.inl ⟨by rfl, ?_⟩) (by assumption) ?_
    rotate_left
    · intro w hSw; (try dsimp only at hSw); go_simp; (try with_reducible rfl)
    try simp only [Act.put, List.getElem_toArray, List.getElem_cons_succ, List.getElem_cons_zero, List.setIfInBounds_toArray, List.set_cons_zero, List.set_cons_succ]
    refine wpHd_two (i := 1) (j := 5) rfl rfl (by kernel_rfl) (fun K hK => ?_) (fun K hK => ?_)
    · go_simp
      refine (puttext_any (.slice none 0 0) _ [] (confB c) w2.drew (byt_nil _) (Hby2.out.only ((Only.refl Non w2).drew) fun _ _ => id) (by decide) (by have := Hcl.out; omega)).mono ?_
      rintro e w3 ⟨v3, rfl, hrow3, ho3, hown3⟩
      have Hb3 := Lib.hid (show Byt w3 v3 (headB c) from hrow3.byt (by have := headB_len HC.out; rw [List.nil_append]; exact Nat.le_trans this (by decide)))
      have Ho3 := Lib.hid (((Only.refl Non w2).drew).trans ho3)
      have y3 := ho3.cell hSS id
      clear hrow3 ho3 hown3
      refine hK.out _ _ ?_ (fun hSS => ?_)
      · first | go_keep | assumption
      clear hK
      try simp only [Act.put, List.getElem_toArray, List.getElem_cons_succ, List.getElem_cons_zero, List.setIfInBounds_toArray, List.set_cons_zero, List.set_cons_succ]
      refine wpHd_one (i := 5) rfl (by kernel_rfl) (fun K hK => ?_)
      go_simp
      have y4 := (Only.refl Non w3).alloc (.cells #[.int .i64 l.length] 3) |>.cell y3 id
      refine hK.out _ _ ?_ (fun hSS => ?_)
      · first | go_keep | assumption
      clear hK
      try simp only [Act.put, List.getElem_toArray, List.getElem_cons_succ, List.getElem_cons_zero, List.setIfInBounds_toArray, List.set_cons_zero, List.set_cons_succ]
      refine wpHd_end (by kernel_rfl) ?_
      clear hSS
      go_wp2_with fail
      refine (put_any v3 (headB c) [l.length] _ 1 1 (w3.alloc (.cells #[.int .i64 l.length] 3)) (Hb3.out.only ((Only.refl Non w3).alloc _) fun _ _ => id) (by have := headB_len HC.out; omega) Hv.out rfl (by simp) (nats_src w3 [l.length] 3)).mono ?_
      rintro e w5 ⟨v5, rfl, hb5, ho5⟩
      have Hc5 := Lib.hid (show Byt w5 v5 (headB c ++ encN l.length) ∧ Only Non w2 w5 from ⟨by simpa [catN] using hb5, Ho3.out.transN (((Only.refl Non w3).alloc _).trans ho5)⟩)
      clear hb5 ho5
      go_wp2_with fail
      go_meet
      exact Hc5.out
    · go_simp
      have y3 := (Only.refl Non w2.drew).alloc (.cells #[.int .i64 l.length] 3) |>.cell hSS id
      refine hK.out _ _ ?_ (fun hSS => ?_)
      · first | go_keep | assumption
      clear hK
      try simp only [Act.put, List.getElem_toArray, List.getElem_cons_succ, List.getElem_cons_zero, List.setIfInBounds_toArray, List.set_cons_zero, List.set_cons_succ]
      refine wpHd_one (i := 1) rfl (by kernel_rfl) (fun K hK => ?_)
      go_simp
      refine (puttext_any (.slice none 0 0) _ [] (confB c) (w2.drew.alloc (.cells #[.int .i64 l.length] 3)) (byt_nil _) (Hby2.out.only (((Only.refl Non w2).drew).alloc _) fun _ _ => id) (by decide) (by have := Hcl.out; omega)).mono ?_
      rintro e w3 ⟨v3, rfl, hrow3, ho3, hown3⟩
      have Hb3 := Lib.hid (show Byt w3 v3 (headB c) from hrow3.byt (by have := headB_len HC.out; rw [List.nil_append]; exact Nat.le_trans this (by decide)))
      have Ho3 := Lib.hid ((((Only.refl Non w2).drew).alloc _).trans ho3)
      have y3 := ho3.cell hSS id
      have Hs3 := Lib.hid ((nats_src w2.drew [l.length] 3).only ho3 fun _ _ _ _ => id)
      clear hrow3 ho3 hown3
      refine hK.out _ _ ?_ (fun hSS => ?_)
      · first | go_keep | assumption
      clear hK
      try simp only [Act.put, List.getElem_toArray, List.getElem_cons_succ, List.getElem_cons_zero, List.setIfInBounds_toArray, List.set_cons_zero, List.set_cons_succ]
      refine wpHd_end (by kernel_rfl) ?_
      clear hSS
      go_wp2_with fail
      refine (put_any v3 (headB c) [l.length] _ 1 1 w3 Hb3.out (by have := headB_len HC.out; omega) Hv.out rfl (by simp) Hs3.out).mono ?_
      rintro e w5 ⟨v5, rfl, hb5, ho5⟩
      have Hc5 := Lib.hid (show Byt w5 v5 (headB c ++ encN l.length) ∧ Only Non w2 w5 from ⟨by simpa [catN] using hb5, Ho3.out.transN ho5⟩)
      clear hb5 ho5
      go_wp2_with fail
      go_meet
      exact Hc5.out
  case rest =>
    obtain ⟨hb5, ho5⟩ := hcut
    have HB5 := Lib.hid (ho5.box HB2.out id)
    have HO5 := Lib.hid (Ho2.out.transN ho5)
    have HS := Lib.hid (show RpRel c l w wc u6 (.int .i64 0) wc from ⟨0, Nat.zero_le _, rfl, fun j hj => absurd hj (Nat.not_lt_zero _), by rw [preB_zero]; exact hb5, Only.refl _ _⟩)
    clear hb5 ho5 x17 Hby2 HB1 HB2 HH Hv
    generalize wc = w5 at *
    have x17 := HB5.out.cellAt (scrCells_ls c (.slice A c.h.length cp) (.slice B l.length cb))
    go_wp2_with fail
    clear x17
    go_loopw [6, 33] (fun b i wr => RpRel c l w w5 b i wr) (fun _ i _ => l.length - (intOf i).toNat)
    case atStart => exact HS.out
    case round =>
      clear HS HB5
      obtain ⟨k, hk, rfl, hlk, hb, ho⟩ := hrel
      have Hlk := Lib.hid hlk
      have Hb' := Lib.hid hb
      have Ho := Lib.hid ho
      have HA := Lib.hid (HL.out.keep (HO5.out.transN ho))
      obtain ⟨Bb, qb, eb, _⟩ := hb
      clear hlk ho
      by_cases hlt : k < l.length
      · obtain ⟨g, o, dA, dc, rfl, hg, x0, x1, x2, x3, x4, x5⟩ := HA.out.at_ k hlt
        have hltb : (k : Int) < l.length := by omega
        have Hlt := Lib.hid hlt
        have Hsc := Lib.hid (preB_succ c l hlt)
        have Hln := Lib.hid (show (preB c l k).length ≤ 400000 from by have := preB_len HC.out k hk Hlk.out; omega)
        generalize hx : l.getD k default = a at *
        have Hx := Lib.hid hx
        have hdm := x5.len.2
        have HAl := Lib.hid (show Only Non wr (wr.alloc (.cells #[.int .i64 a.kind, .int .i64 a.a, .int .i64 a.b, .int .i64 a.n, .slice dA a.data.length dc] 47)) from (Only.refl _ _).alloc _)
        have HD' := Lib.hid (x5.only HAl.out fun _ _ => id)
        have HBa := Lib.hid (Box.fresh wr 47 #[.int .i64 a.kind, .int .i64 a.a, .int .i64 a.b, .int .i64 a.n, .slice dA a.data.length dc])
        have Hb0 := Lib.hid (Hb'.out.only HAl.out fun _ _ => id)
        clear hx x5 Hb'
        generalize hpl : (preB c l k).length = pl at *
        have Hpl := Lib.hid hpl
        clear hpl
        subst eb
        go_upto_region 8 with fail
        generalize wr.alloc (.cells #[.int .i64 a.kind, .int .i64 a.a, .int .i64 a.b, .int .i64 a.n, .slice dA a.data.length dc] 47) = X at *
        generalize hhb : wr.heap.size = hb at *
        have Hhb := Lib.hid hhb
        clear hhb x0 x1 x2 x3 x4
        have HR := Lib.hid (aright_any a dA _ dc X rfl (by unfold maxLen; omega))
        have x0 : X.cell? ⟨hb, 0, none⟩ = some (.int .i64 a.kind) := HBa.out.cellAt rfl
        have x1 : X.cell? ⟨hb, 1, none⟩ = some (.int .i64 a.a) := HBa.out.cellAt rfl
        have x2 : X.cell? ⟨hb, 2, none⟩ = some (.int .i64 a.b) := HBa.out.cellAt rfl
        have x3 : X.cell? ⟨hb, 3, none⟩ = some (.int .i64 a.n) := HBa.out.cellAt rfl
        have x4 : X.cell? ⟨hb, 4, none⟩ = some (.slice dA a.data.length dc) := HBa.out.cellAt rfl
        by_cases hp : ActP a
        · rw [okAct_yes hp] at HR
          have HP := Lib.hid hp
          have hkN : a.kind = (a.kind.toNat : Nat) := by have := hp.1; omega
          have Hk10 := Lib.hid (show a.kind.toNat ≤ 10 from by have := hp.1; omega)
          have HaB := Lib.hid (show actB a = encN a.kind.toNat ++ encN (foldedN a.a) ++ encN (foldedN a.b) ++ encN (foldedN a.n) ++ (encN a.data.length ++ a.data) from by unfold actB; simp [List.append_assoc])
          have HkN := Lib.hid hkN
          clear hp hkN
          go_wp2_with fail
          refine HR.out.mono ?_
          rintro e y1 ⟨rfl, ho⟩
          have HOy := Lib.hid (HAl.out.trans ho)
          have Hb := Lib.hid (Hb0.out.only ho fun _ _ => id)
          have HD := Lib.hid (HD'.out.only ho fun _ _ => id)
          have HBy := Lib.hid (ho.box HBa.out id)
          clear ho x0 x1 x2 x3 x4 HR
          rw [HkN.out] at HBy
          clear HkN
          generalize a.kind.toNat = Kd at *
          have Z0 := Lib.hid (show y1.drew.cell? ⟨hb, 0, none⟩ = some (.int .i64 (Kd : Nat)) from HBy.out.cellAt rfl)
          have Z1 := Lib.hid (show y1.drew.cell? ⟨hb, 1, none⟩ = some (.int .i64 a.a) from HBy.out.cellAt rfl)
          have Z2 := Lib.hid (show y1.drew.cell? ⟨hb, 2, none⟩ = some (.int .i64 a.b) from HBy.out.cellAt rfl)
          have Z3 := Lib.hid (show y1.drew.cell? ⟨hb, 3, none⟩ = some (.int .i64 a.n) from HBy.out.cellAt rfl)
          have Z4 := Lib.hid (show y1.drew.cell? ⟨hb, 4, none⟩ = some (.slice dA a.data.length dc) from HBy.out.cellAt rfl)
          have Hv4 := Lib.hid (show ∀ j, j < [Kd, foldedN a.a, foldedN a.b, foldedN a.n].length → [Kd, foldedN a.a, foldedN a.b, foldedN a.n].getD j 0 < 2 ^ 63 from fun j hj => by
            have f1 := folded_lt a.a (by simpa [okNum] using HP.out.2.1)
            have f2 := folded_lt a.b (by simpa [okNum] using HP.out.2.2.1)
            have f3 := folded_lt a.n (by simpa [okNum] using HP.out.2.2.2.1)
            have f0 := Hk10.out
            rcases (show j = 0 ∨ j = 1 ∨ j = 2 ∨ j = 3 from by simp at hj; omega) with rfl | rfl | rfl | rfl
            · show Kd < 2 ^ 63; omega
            · exact f1
            · exact f2
            · exact f3)
          go_upto_region 10 with fail
          refine wp_region_tail (S := (fun w' : World => w'.cell? ⟨hb, 0, none⟩ = some (.int .i64 Kd) ∧ w'.cell? ⟨hb, 1, none⟩ = some (.int .i64 a.a) ∧ w'.cell? ⟨hb, 2, none⟩ = some (.int .i64 a.b) ∧ w'.cell? ⟨hb, 3, none⟩ = some (.int .i64 a.n) ∧ w'.cell? ⟨hb, 4, none⟩ = some (.slice dA a.data.length dc))) 16 (by kernel_rfl) (by kernel_rfl) ?_ ?_
          · refine ⟨?_, ?_, ?_, ?_, ?_⟩ <;> first | assumption | exact Z0.out | exact Z1.out | exact Z2.out | exact Z3.out | exact Z4.out | exact ((Only.refl Non y1.drew).alloc _).cell Z0.out id | exact ((Only.refl Non y1.drew).alloc _).cell Z1.out id | exact ((Only.refl Non y1.drew).alloc _).cell Z2.out id | exact ((Only.refl Non y1.drew).alloc _).cell Z3.out id | exact ((Only.refl Non y1.drew).alloc _).cell Z4.out id
          intro hSS
          refine wpHd_take (i := 0) (v := ?_) (by kernel_rfl) rfl (by kernel_rfl) (fun _ _ _ h => h) (Or.inl ⟨by rfl, ?_⟩) (by assumption) ?_
          rotate_left
          · intro w hSw; (try dsimp only at hSw); go_simp; (try with_reducible rfl)
          try simp only [Act.put, List.getElem_toArray, List.getElem_cons_succ, List.getElem_cons_zero, List.setIfInBounds_toArray, List.set_cons_zero, List.set_cons_succ]
          refine wpHd_take (i := 1) (v := ?_) (by kernel_rfl) rfl (by kernel_rfl) (fun _ _ _ h => h) (Or.inl ⟨by rfl, ?_⟩) (by assumption) ?_
          rotate_left
          · intro w hSw; (try dsimp only at hSw); go_simp; (try with_reducible rfl)
          try simp only [Act.put, List.getElem_toArray, List.getElem_cons_succ, List.getElem_cons_zero, List.setIfInBounds_toArray, List.set_cons_zero, List.set_cons_succ]
          refine wpHd_take (i := 2) (v := ?_) (by kernel_rfl) rfl (by kernel_rfl) (fun _ _ _ h => h) (Or.inl ⟨by rfl, ?_⟩) (by assumption) ?_
          rotate_left
          · intro w hSw; (try dsimp only at hSw); go_simp; (try with_reducible rfl)
          try simp only [Act.put, List.getElem_toArray, List.getElem_cons_succ, List.getElem_cons_zero, List.setIfInBounds_toArray, List.set_cons_zero, List.set_cons_succ]
          refine wpHd_take (i := 3) (v := ?_) (by kernel_rfl) rfl (by kernel_rfl) (fun _ _ _ h => h) (Or.inl ⟨by rfl, ?_⟩) (by assumption) ?_
          rotate_left
          · intro w hSw; (try dsimp only at hSw); go_simp; (try with_reducible rfl)
          try simp only [Act.put, List.getElem_toArray, List.getElem_cons_succ, List.getElem_cons_zero, List.setIfInBounds_toArray, List.set_cons_zero, List.set_cons_succ]
          refine wpHd_take (i := 4) (v := ?_) (by kernel_rfl) rfl (by kernel_rfl) (fun _ _ _ h => h) (Or.inl ⟨by rfl, ?_⟩) (by assumption) ?_
          rotate_left
          · intro w hSw; (try dsimp only at hSw); go_simp; (try with_reducible rfl)
          try simp only [Act.put, List.getElem_toArray, List.getElem_cons_succ, List.getElem_cons_zero, List.setIfInBounds_toArray, List.set_cons_zero, List.set_cons_succ]
          refine wpHd_take (i := 6) (v := ?_) (by kernel_rfl) rfl (by kernel_rfl) (fun _ _ _ h => h) (Or.inl ⟨by rfl, ?_⟩) (by assumption) ?_
          rotate_left
          · intro w hSw; (try dsimp only at hSw); go_simp; (try with_reducible rfl)
          try simp only [Act.put, List.getElem_toArray, List.getElem_cons_succ, List.getElem_cons_zero, List.setIfInBounds_toArray, List.set_cons_zero, List.set_cons_succ]
          refine wpHd_take (i := 7) (v := ?_) (by kernel_rfl) rfl (by kernel_rfl) (fun _ _ _ h => h) (Or.inl ⟨by rfl, ?_⟩) (by assumption) ?_
          rotate_left
          · intro w hSw; (try dsimp only at hSw); go_simp; (try with_reducible rfl)
          try simp only [Act.put, List.getElem_toArray, List.getElem_cons_succ, List.getElem_cons_zero, List.setIfInBounds_toArray, List.set_cons_zero, List.set_cons_succ]
          refine wpHd_take (i := 9) (v := ?_) (by kernel_rfl) rfl (by kernel_rfl) (fun _ _ _ h => h) (Or.inl ⟨by rfl, ?_⟩) (by assumption) ?_
          rotate_left
          · intro w hSw; (try dsimp only at hSw); go_simp; (try with_reducible rfl)
          try simp only [Act.put, List.getElem_toArray, List.getElem_cons_succ, List.getElem_cons_zero, List.setIfInBounds_toArray, List.set_cons_zero, List.set_cons_succ]
          refine wpHd_take (i := 10) (v := ?_) (by kernel_rfl) rfl (by kernel_rfl) (fun _ _ _ h => h) (Or.inl ⟨by rfl, ?_⟩) (by assumption) ?_
          rotate_left
          · intro w hSw; (try dsimp only at hSw); go_simp; (try with_reducible rfl)
          try simp only [Act.put, List.getElem_toArray, List.getElem_cons_succ, List.getElem_cons_zero, List.setIfInBounds_toArray, List.set_cons_zero, List.set_cons_succ]
          refine wpHd_take (i := 14) (v := ?_) (by kernel_rfl) rfl (by kernel_rfl) (fun _ _ _ h => h) (Or.inl ⟨by rfl, ?_⟩) (by assumption) ?_
          rotate_left
          · intro w hSw; (try dsimp only at hSw); go_simp; (try with_reducible rfl)
          try simp only [Act.put, List.getElem_toArray, List.getElem_cons_succ, List.getElem_cons_zero, List.setIfInBounds_toArray, List.set_cons_zero, List.set_cons_succ]
          refine wpHd_take (i := 15) (v := ?_) (by kernel_rfl) rfl (by kernel_rfl) (fun _ _ _ h => h) (Or.inl ⟨by rfl, ?_⟩) (by assumption) ?_
          rotate_left
          · intro w hSw; (try dsimp only at hSw); go_simp; (try with_reducible rfl)
          try simp only [Act.put, List.getElem_toArray, List.getElem_cons_succ, List.getElem_cons_zero, List.setIfInBounds_toArray, List.set_cons_zero, List.set_cons_succ]
          refine wpHd_one (i := 5) rfl (by kernel_rfl) (fun K hK => ?_)
          go_simp
          refine (folded_any HP.out.2.1 _).mono ?_
          rintro e z5 ⟨rfl, e5⟩
          rw [← e5]
          clear e5
          refine hK.out _ _ ?_ (fun hSS => ?_)
          · refine ⟨?_, ?_, ?_, ?_, ?_⟩ <;> first | assumption | exact Z0.out | exact Z1.out | exact Z2.out | exact Z3.out | exact Z4.out | exact ((Only.refl Non y1.drew).alloc _).cell Z0.out id | exact ((Only.refl Non y1.drew).alloc _).cell Z1.out id | exact ((Only.refl Non y1.drew).alloc _).cell Z2.out id | exact ((Only.refl Non y1.drew).alloc _).cell Z3.out id | exact ((Only.refl Non y1.drew).alloc _).cell Z4.out id
          clear hK
          try simp only [Act.put, List.getElem_toArray, List.getElem_cons_succ, List.getElem_cons_zero, List.setIfInBounds_toArray, List.set_cons_zero, List.set_cons_succ]
          refine wpHd_one (i := 8) rfl (by kernel_rfl) (fun K hK => ?_)
          go_simp
          refine (folded_any HP.out.2.2.1 _).mono ?_
          rintro e z8 ⟨rfl, e5⟩
          rw [← e5]
          clear e5
          refine hK.out _ _ ?_ (fun hSS => ?_)
          · refine ⟨?_, ?_, ?_, ?_, ?_⟩ <;> first | assumption | exact Z0.out | exact Z1.out | exact Z2.out | exact Z3.out | exact Z4.out | exact ((Only.refl Non y1.drew).alloc _).cell Z0.out id | exact ((Only.refl Non y1.drew).alloc _).cell Z1.out id | exact ((Only.refl Non y1.drew).alloc _).cell Z2.out id | exact ((Only.refl Non y1.drew).alloc _).cell Z3.out id | exact ((Only.refl Non y1.drew).alloc _).cell Z4.out id
          clear hK
          try simp only [Act.put, List.getElem_toArray, List.getElem_cons_succ, List.getElem_cons_zero, List.setIfInBounds_toArray, List.set_cons_zero, List.set_cons_succ]
          refine wpHd_one (i := 11) rfl (by kernel_rfl) (fun K hK => ?_)
          go_simp
          refine (folded_any HP.out.2.2.2.1 _).mono ?_
          rintro e z11 ⟨rfl, e5⟩
          rw [← e5]
          clear e5
          refine hK.out _ _ ?_ (fun hSS => ?_)
          · refine ⟨?_, ?_, ?_, ?_, ?_⟩ <;> first | assumption | exact Z0.out | exact Z1.out | exact Z2.out | exact Z3.out | exact Z4.out | exact ((Only.refl Non y1.drew).alloc _).cell Z0.out id | exact ((Only.refl Non y1.drew).alloc _).cell Z1.out id | exact ((Only.refl Non y1.drew).alloc _).cell Z2.out id | exact ((Only.refl Non y1.drew).alloc _).cell Z3.out id | exact ((Only.refl Non y1.drew).alloc _).cell Z4.out id
          clear hK
          try simp only [Act.put, List.getElem_toArray, List.getElem_cons_succ, List.getElem_cons_zero, List.setIfInBounds_toArray, List.set_cons_zero, List.set_cons_succ]
          refine wpHd_one (i := 12) rfl (by kernel_rfl) (fun K hK => ?_)
          go_simp
          skip
          refine hK.out _ _ ?_ (fun hSS => ?_)
          · refine ⟨?_, ?_, ?_, ?_, ?_⟩ <;> first | assumption | exact Z0.out | exact Z1.out | exact Z2.out | exact Z3.out | exact Z4.out | exact ((Only.refl Non y1.drew).alloc _).cell Z0.out id | exact ((Only.refl Non y1.drew).alloc _).cell Z1.out id | exact ((Only.refl Non y1.drew).alloc _).cell Z2.out id | exact ((Only.refl Non y1.drew).alloc _).cell Z3.out id | exact ((Only.refl Non y1.drew).alloc _).cell Z4.out id
          clear hK
          try simp only [Act.put, List.getElem_toArray, List.getElem_cons_succ, List.getElem_cons_zero, List.setIfInBounds_toArray, List.set_cons_zero, List.set_cons_succ]
          refine wpHd_one (i := 13) rfl (by kernel_rfl) (fun K hK => ?_)
          go_simp
          refine (put_any _ (preB c l k) [Kd, foldedN a.a, foldedN a.b, foldedN a.n] _ 4 4 _ (Hb.out.only (((Only.refl Non y1).drew).alloc _) fun _ _ => id) (by have := Hln.out; have := Hpl.out; omega) Hv4.out rfl (by simp) (nats_src y1.drew [Kd, foldedN a.a, foldedN a.b, foldedN a.n] 3)).mono ?_
          rintro e z1 ⟨u5, rfl, hb5, ho5⟩
          have hOz := (((Only.refl Non y1).drew).alloc (.cells #[.int .i64 Kd, .int .i64 (foldedN a.a), .int .i64 (foldedN a.b), .int .i64 (foldedN a.n)] 3)).trans ho5
          have Hz5 := Lib.hid (show Byt z1 u5 (preB c l k ++ catN [Kd, foldedN a.a, foldedN a.b, foldedN a.n]) ∧ Only Non y1 z1 from ⟨hb5, hOz⟩)
          have j0 := hOz.cell Z0.out id
          have j1 := hOz.cell Z1.out id
          have j2 := hOz.cell Z2.out id
          have j3 := hOz.cell Z3.out id
          have j4 := hOz.cell Z4.out id
          clear hb5 ho5 hOz
          refine hK.out _ _ ?_ (fun hSS => ?_)
          · refine ⟨?_, ?_, ?_, ?_, ?_⟩ <;> first | assumption | exact Z0.out | exact Z1.out | exact Z2.out | exact Z3.out | exact Z4.out | exact ((Only.refl Non y1.drew).alloc _).cell Z0.out id | exact ((Only.refl Non y1.drew).alloc _).cell Z1.out id | exact ((Only.refl Non y1.drew).alloc _).cell Z2.out id | exact ((Only.refl Non y1.drew).alloc _).cell Z3.out id | exact ((Only.refl Non y1.drew).alloc _).cell Z4.out id
          clear hK
          try simp only [Act.put, List.getElem_toArray, List.getElem_cons_succ, List.getElem_cons_zero, List.setIfInBounds_toArray, List.set_cons_zero, List.set_cons_succ]
          refine wpHd_end (by kernel_rfl) ?_
          clear hSS
          go_wp2_with fail
          refine (puttext_any _ _ (preB c l k ++ catN [Kd, foldedN a.a, foldedN a.b, foldedN a.n]) a.data z1 Hz5.out.1 (HD.out.only Hz5.out.2 fun _ _ => id) (by have := Hln.out; have := Hpl.out; have := catN_len [Kd, foldedN a.a, foldedN a.b, foldedN a.n]; rw [List.length_append]; simp at this; omega) (by have := HP.out.2.2.2.2; omega)).mono ?_
          rintro e z2 ⟨u6, rfl, hrow6, ho6, hown6⟩
          have HRR := Lib.hid (show RpRel c l w w5 u6 (.int .i64 ((k : Int) + 1)) z2 from ⟨k + 1, Hlt.out, by simp, fun j hj => by
            rcases Nat.lt_or_ge j k with h | h
            · exact Hlk.out j h
            · obtain rfl : j = k := by omega
              rw [Hx.out]; exact HP.out, by
                rw [Hsc.out, HaB.out]
                refine Row.bytesAt ?_ (by have := Hln.out; have := Hpl.out; have := actB_len HP.out.2.2.2.2; rw [← HaB.out, List.length_append]; omega)
                have h := hrow6
                simp only [List.append_assoc, catN, List.flatMap_cons, List.flatMap_nil, List.append_nil] at h
                simp only [List.append_assoc]
                exact h, Ho.out.transN ((HOy.out.trans Hz5.out.2).trans ho6)⟩)
          clear hrow6 ho6 hown6 j0 j1 j2 j3 j4
          go_wp2_with fail
          refine ⟨?_, ?_⟩
          · (repeat first | exact ⟨HRR.out, rfl⟩ | exact HRR.out | apply Exists.intro)
          · simp [intOf]; omega
        · rw [okAct_no hp] at HR
          have Hno := Lib.hid (show ¬ ScriptP c l from fun q => hp (by rw [← Hx.out]; exact q.acts k Hlt.out))
          clear hp
          go_wp2_with fail
          refine HR.out.mono ?_
          rintro e y1 ⟨rfl, ho⟩
          have HOF := Lib.hid (HO5.out.transN (Ho.out.transN (HAl.out.transN ho)))
          clear ho
          go_wp2_with fail
          go_ret2
          exact ⟨.inr ⟨Hno.out, rfl⟩, HOF.out⟩
      · obtain rfl : k = l.length := by omega
        have HF := Lib.hid (show Byt wr _ (scriptB c l) from by rw [← preB_all]; exact Hb'.out)
        have HS := Lib.hid (show ScriptP c l from ⟨HC.out, hf, Hlk.out⟩)
        have HOF := Lib.hid (HO5.out.transN Ho.out)
        clear hlt hk
        generalize (preB c l l.length).length = pl at *
        subst eb
        go_wp2_with fail
        go_ret2
        exact ⟨.inl ⟨HS.out, _, rfl, HF.out⟩, HOF.out⟩
end
end Go.Proofs.Ytaofjnpmnaohcaa
