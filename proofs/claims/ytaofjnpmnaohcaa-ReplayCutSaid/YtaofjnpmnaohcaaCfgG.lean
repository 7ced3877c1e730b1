/- gradineref03.Put. Printed by cfgg.py. -/
import Derived.Test.YtaofjnpmnaohcaaCfgD
import Derived.Test.YtaofjnpmnaohcaaCfgL
import Derived.Laws.Rows
namespace Go.Proofs.Ytaofjnpmnaohcaa
open Go.RowKit
set_option linter.unusedVariables false
set_option linter.unusedSimpArgs false
/-- bytes of the call's own, built up -/
def Bld (w0 w : World) (v : Value) (l : List Int) : Prop := Row 5 w v (bytes l) ∧ Only Non w0 w ∧ ∀ k, ownB v k → w0.heap.size ≤ k
theorem Bld.only {w0 w w' : World} {v : Value} {l : List Int} (h : Bld w0 w v l) (ho : Only Non w w') : Bld w0 w' v l := ⟨h.1.only ho fun _ _ => id, h.2.1.transN ho, h.2.2⟩
theorem wpList_bld {ops : Array Oper} {rest : List Oper} {o : Oper} {a : Act} {Q : Exit → Act → World → Prop} (w0 w : World) (hgd : o.guard = none) (s x : Operand)
    (ho : o.op = .call { callee := .builtin .append, args := #[s, x], argTypes := #[29, 29] }) (v : Value) (l : List Int) (hs : a.eval s = v) (hb : Bld w0 w v l)
    (vx : Value) (t : List Int) (hx : a.eval x = vx) (hrx : Row 5 w vx (bytes t)) (hlen : l.length + t.length ≤ 2000000)
    (h : ∀ v1 w1, Bld w0 w1 v1 (l ++ t) → (∀ g ty cs, Box w g ty cs → ¬ ownB v g → Box w1 g ty cs ∧ ¬ ownB v1 g) → wpList Try.prog ops Q rest (a.put o.dst v1) w1) : wpList Try.prog ops Q (o :: rest) a w := by
  obtain ⟨A, c, e, hs2⟩ := hrx.src
  rw [bytes_len] at e
  subst e
  refine wpList_append_row w hgd s x 29 5 ho byteInfo rfl Try.underlying29 v (bytes l) hs hb.1 A t.length c (bytes t) hx (by rw [bytes_len]) hs2 (bytes_one t) (by rw [bytes_len, bytes_len]; unfold maxLen; omega) (by rw [bytes_len, bytes_len]; omega) ?_
  intro v1 w1 hrow1 hgrow1 hown1 _
  refine h v1 w1 ⟨by rw [bytes_app]; exact hrow1, hb.2.1.trans' hgrow1 fun k hk => .inr (hb.2.2 k hk), fun k hk => (hown1 k hk).elim (hb.2.2 k) fun h => by have := hb.2.1.size; omega⟩ fun g ty cs hg hn => ⟨hgrow1.box hg hn, fun h => (hown1 g h).elim hn fun h => by have := hg.lt; omega⟩
theorem Bld.lt {w0 w : World} {v : Value} {l : List Int} (h : Bld w0 w v l) : ¬ ownB v w.heap.size := fun hk => Nat.lt_irrefl _ (h.1.lt hk)
theorem byte_row (w : World) (x : Int) : Row 5 (w.alloc (.cells #[.int .u8 x] 5)) (.slice (some ⟨w.heap.size, 0, none⟩) 1 1) (bytes [x]) :=
  .inr ⟨_, 1, #[.int .u8 x], rfl, Box.fresh _ _ _, by simp [bytes], by simp, by simp [maxLen], rfl⟩
theorem lits_src (w : World) (vs : List Value) (t : TypeId) : Src (w.alloc (.cells vs.toArray t)) (some ⟨w.heap.size, 0, none⟩) vs := by
  intro j u hj
  exact ⟨_, _, rfl, (Box.fresh w t _).cellAt (by rw [Nat.zero_add]; simpa using hj)⟩
theorem intInfo : (Try.prog.info? 3).map (fun i => (i.zero, i.size, i.bytes)) = some (some (.int .i64 0), 1, 8) := by kernel_rfl
abbrev ints (l : List Int) : List Value := l.map (Value.int .i64)
def L17 (c : CfgA) : List Int := [c.f 0, c.f 1, c.f 2, c.f 3, c.f 4, c.f 5, c.f 6, c.f 7, c.f 8, c.f 9, c.f 10, c.f 11, c.f 12, c.f 13, c.f 14, c.f 15, c.h.length]
theorem L17_at (c : CfgA) {i : Nat} (hi : i < 16) : (L17 c).getD i 0 = c.f i := by
  rcases (show i = 0 ∨ i = 1 ∨ i = 2 ∨ i = 3 ∨ i = 4 ∨ i = 5 ∨ i = 6 ∨ i = 7 ∨ i = 8 ∨ i = 9 ∨ i = 10 ∨ i = 11 ∨ i = 12 ∨ i = 13 ∨ i = 14 ∨ i = 15 from by omega) with rfl | rfl | rfl | rfl | rfl | rfl | rfl | rfl | rfl | rfl | rfl | rfl | rfl | rfl | rfl | rfl <;> rfl
theorem L17_numsB (c : CfgA) : numsB (fun i => (L17 c).getD i 0) 17 = confH c := by
  have h : numsB (fun i => (L17 c).getD i 0) 16 = numsB c.f 16 := by
    unfold numsB
    simp only [List.flatMap]
    congr 1
  rw [numsB_succ, h]
  rfl
def RpRel1 (c : CfgA) (w5 : World) (b i : Value) (wr : World) : Prop := ∃ k : Nat, k ≤ 17 ∧ i = .int .i64 k ∧ Bld w5 wr b (numsB (fun i => (L17 c).getD i 0) k)
def RpRel2 (c : CfgA) (w5 : World) (b i : Value) (wr : World) : Prop := ∃ k : Nat, k ≤ c.h.length ∧ i = .int .i64 k ∧ Bld w5 wr b (confH c ++ hsB c.h k)
theorem L17_range {c : CfgA} (h : CfgP c) : ∀ i, i < 17 → 0 ≤ (L17 c).getD i 0 ∧ (L17 c).getD i 0 ≤ 100 := by
  intro i hi
  by_cases h16 : i < 16
  · rw [L17_at c h16]; exact h.range i h16
  · obtain rfl : i = 16 := by omega
    have := h.hs.2.2
    show 0 ≤ (c.h.length : Int) ∧ (c.h.length : Int) ≤ 100
    omega
section
set_option maxHeartbeats 2000000
set_option maxRecDepth 100000
theorem refconf_no (A : Option Addr) (n cp : Nat) (c : CfgA) (w : World) (h : HintsAt w A n cp c.h) (hc : ¬ CfgP c) :
    Calls Try.prog 19 #[.agg (cfgCells c (.slice A n cp))] w fun e w' => e = .returned (.tuple #[.slice none 0 0, .int .i64 6]) ∧ Only Non w w' := by
  have hnl : n = c.h.length := h.len
  subst hnl
  have HO := Lib.hid (show Only Non w (w.alloc (.cells (cfgCells c (.slice A c.h.length cp)) 25)) from (Only.refl _ _).alloc _)
  have HR := Lib.hid (rright_any A c.h.length cp c (w.alloc (.cells (cfgCells c (.slice A c.h.length cp)) 25)) (h.keep HO.out))
  rw [cfgB_no hc] at HR
  clear h hc
  go_enter Try.func19, Try.ntmps19
  go_upto_region 1 with fail
  have HB1 := Lib.hid (Box.fresh w 25 (cfgCells c (.slice A c.h.length cp)))
  generalize hw1 : w.alloc (.cells (cfgCells c (.slice A c.h.length cp)) 25) = w1 at *
  clear hw1
  have x0 := HB1.out.cellAt (cfgCells_at c (.slice A c.h.length cp) (i := 0) (by omega))
  have x1 := HB1.out.cellAt (cfgCells_at c (.slice A c.h.length cp) (i := 1) (by omega))
  have x2 := HB1.out.cellAt (cfgCells_at c (.slice A c.h.length cp) (i := 2) (by omega))
  have x3 := HB1.out.cellAt (cfgCells_at c (.slice A c.h.length cp) (i := 3) (by omega))
  have x4 := HB1.out.cellAt (cfgCells_at c (.slice A c.h.length cp) (i := 4) (by omega))
  have x5 := HB1.out.cellAt (cfgCells_at c (.slice A c.h.length cp) (i := 5) (by omega))
  have x6 := HB1.out.cellAt (cfgCells_at c (.slice A c.h.length cp) (i := 6) (by omega))
  have x7 := HB1.out.cellAt (cfgCells_at c (.slice A c.h.length cp) (i := 7) (by omega))
  have x8 := HB1.out.cellAt (cfgCells_at c (.slice A c.h.length cp) (i := 8) (by omega))
  have x9 := HB1.out.cellAt (cfgCells_at c (.slice A c.h.length cp) (i := 9) (by omega))
  have x10 := HB1.out.cellAt (cfgCells_at c (.slice A c.h.length cp) (i := 10) (by omega))
  have x11 := HB1.out.cellAt (cfgCells_at c (.slice A c.h.length cp) (i := 11) (by omega))
  have x12 := HB1.out.cellAt (cfgCells_at c (.slice A c.h.length cp) (i := 12) (by omega))
  have x13 := HB1.out.cellAt (cfgCells_at c (.slice A c.h.length cp) (i := 13) (by omega))
  have x14 := HB1.out.cellAt (cfgCells_at c (.slice A c.h.length cp) (i := 14) (by omega))
  have x15 := HB1.out.cellAt (cfgCells_at c (.slice A c.h.length cp) (i := 15) (by omega))
  have x16 := HB1.out.cellAt (cfgCells_hs c (.slice A c.h.length cp))
  go_wp2_with fail
  refine HR.out.mono ?_
  rintro e w2 ⟨rfl, ho1⟩
  have Ho1 := Lib.hid (HO.out.transN ho1)
  clear ho1
  go_wp2_with fail
  go_ret2
  exact ⟨rfl, Ho1.out⟩
theorem refconf_yes (A : Option Addr) (n cp : Nat) (c : CfgA) (w : World) (h : HintsAt w A n cp c.h) (hc : CfgP c) :
    Calls Try.prog 19 #[.agg (cfgCells c (.slice A n cp))] w fun e w' => ∃ v, e = .returned (.tuple #[v, .int .i64 0]) ∧ Row 5 w' v (bytes (confB c)) ∧ Only Non w w' := by
  have hnl : n = c.h.length := h.len
  have hcpn : n ≤ cp := h.cap
  have hmx : cp ≤ maxLen := h.max
  unfold maxLen at hmx
  subst hnl
  have HO := Lib.hid (show Only Non w (w.alloc (.cells (cfgCells c (.slice A c.h.length cp)) 25)) from (Only.refl _ _).alloc _)
  have HR := Lib.hid (rright_any A c.h.length cp c (w.alloc (.cells (cfgCells c (.slice A c.h.length cp)) 25)) (h.keep HO.out))
  rw [cfgB_yes hc] at HR
  have H := Lib.hid h
  have HC := Lib.hid hc
  have h8 : c.h.length ≤ 8 := hc.hs.2.2
  clear h hc
  go_enter Try.func19, Try.ntmps19
  go_upto_region 1 with fail
  have HB1 := Lib.hid (Box.fresh w 25 (cfgCells c (.slice A c.h.length cp)))
  generalize hw1 : w.alloc (.cells (cfgCells c (.slice A c.h.length cp)) 25) = w1 at *
  clear hw1
  have x0 := HB1.out.cellAt (cfgCells_at c (.slice A c.h.length cp) (i := 0) (by omega))
  have x1 := HB1.out.cellAt (cfgCells_at c (.slice A c.h.length cp) (i := 1) (by omega))
  have x2 := HB1.out.cellAt (cfgCells_at c (.slice A c.h.length cp) (i := 2) (by omega))
  have x3 := HB1.out.cellAt (cfgCells_at c (.slice A c.h.length cp) (i := 3) (by omega))
  have x4 := HB1.out.cellAt (cfgCells_at c (.slice A c.h.length cp) (i := 4) (by omega))
  have x5 := HB1.out.cellAt (cfgCells_at c (.slice A c.h.length cp) (i := 5) (by omega))
  have x6 := HB1.out.cellAt (cfgCells_at c (.slice A c.h.length cp) (i := 6) (by omega))
  have x7 := HB1.out.cellAt (cfgCells_at c (.slice A c.h.length cp) (i := 7) (by omega))
  have x8 := HB1.out.cellAt (cfgCells_at c (.slice A c.h.length cp) (i := 8) (by omega))
  have x9 := HB1.out.cellAt (cfgCells_at c (.slice A c.h.length cp) (i := 9) (by omega))
  have x10 := HB1.out.cellAt (cfgCells_at c (.slice A c.h.length cp) (i := 10) (by omega))
  have x11 := HB1.out.cellAt (cfgCells_at c (.slice A c.h.length cp) (i := 11) (by omega))
  have x12 := HB1.out.cellAt (cfgCells_at c (.slice A c.h.length cp) (i := 12) (by omega))
  have x13 := HB1.out.cellAt (cfgCells_at c (.slice A c.h.length cp) (i := 13) (by omega))
  have x14 := HB1.out.cellAt (cfgCells_at c (.slice A c.h.length cp) (i := 14) (by omega))
  have x15 := HB1.out.cellAt (cfgCells_at c (.slice A c.h.length cp) (i := 15) (by omega))
  have x16 := HB1.out.cellAt (cfgCells_hs c (.slice A c.h.length cp))
  go_wp2_with fail
  refine HR.out.mono ?_
  rintro e w2 ⟨rfl, ho2⟩
  have Ho2 := Lib.hid (HO.out.transN ho2)
  have HB2 := Lib.hid (ho2.box HB1.out id)
  clear ho2
  clear HR x0 x1 x2 x3 x4 x5 x6 x7 x8 x9 x10 x11 x12 x13 x14 x15 x16
  have Hr0 := Lib.hid (show Row 3 (w2.alloc (.cells #[.int .i64 (c.f 0), .int .i64 (c.f 1), .int .i64 (c.f 2), .int .i64 (c.f 3), .int .i64 (c.f 4), .int .i64 (c.f 5), .int .i64 (c.f 6), .int .i64 (c.f 7), .int .i64 (c.f 8)] 3)) (.slice none 0 0) [] from Row.nil_ _ _)
  have x0 := HB2.out.cellAt (cfgCells_at c (.slice A c.h.length cp) (i := 0) (by omega))
  have x1 := HB2.out.cellAt (cfgCells_at c (.slice A c.h.length cp) (i := 1) (by omega))
  have x2 := HB2.out.cellAt (cfgCells_at c (.slice A c.h.length cp) (i := 2) (by omega))
  have x3 := HB2.out.cellAt (cfgCells_at c (.slice A c.h.length cp) (i := 3) (by omega))
  have x4 := HB2.out.cellAt (cfgCells_at c (.slice A c.h.length cp) (i := 4) (by omega))
  have x5 := HB2.out.cellAt (cfgCells_at c (.slice A c.h.length cp) (i := 5) (by omega))
  have x6 := HB2.out.cellAt (cfgCells_at c (.slice A c.h.length cp) (i := 6) (by omega))
  have x7 := HB2.out.cellAt (cfgCells_at c (.slice A c.h.length cp) (i := 7) (by omega))
  have x8 := HB2.out.cellAt (cfgCells_at c (.slice A c.h.length cp) (i := 8) (by omega))
  have x9 := HB2.out.cellAt (cfgCells_at c (.slice A c.h.length cp) (i := 9) (by omega))
  have x10 := HB2.out.cellAt (cfgCells_at c (.slice A c.h.length cp) (i := 10) (by omega))
  have x11 := HB2.out.cellAt (cfgCells_at c (.slice A c.h.length cp) (i := 11) (by omega))
  have x12 := HB2.out.cellAt (cfgCells_at c (.slice A c.h.length cp) (i := 12) (by omega))
  have x13 := HB2.out.cellAt (cfgCells_at c (.slice A c.h.length cp) (i := 13) (by omega))
  have x14 := HB2.out.cellAt (cfgCells_at c (.slice A c.h.length cp) (i := 14) (by omega))
  have x15 := HB2.out.cellAt (cfgCells_at c (.slice A c.h.length cp) (i := 15) (by omega))
  have x16 := HB2.out.cellAt (cfgCells_hs c (.slice A c.h.length cp))
  go_upto_region 5 with (at_builtin; refine wpList_append_row _ rfl (.tmp 12) (.tmp 34) 73 3 rfl intInfo rfl Try.underlying73 (.slice none 0 0) [] rfl Hr0.out (some ⟨w2.heap.size, 0, none⟩) 9 9 [.int .i64 (c.f 0), .int .i64 (c.f 1), .int .i64 (c.f 2), .int .i64 (c.f 3), .int .i64 (c.f 4), .int .i64 (c.f 5), .int .i64 (c.f 6), .int .i64 (c.f 7), .int .i64 (c.f 8)] rfl rfl (lits_src w2 [.int .i64 (c.f 0), .int .i64 (c.f 1), .int .i64 (c.f 2), .int .i64 (c.f 3), .int .i64 (c.f 4), .int .i64 (c.f 5), .int .i64 (c.f 6), .int .i64 (c.f 7), .int .i64 (c.f 8)] 3) (by simp [Value.oneCell']) (by simp [maxLen]) (by simp) ?_; intro v3 w3 hrow3 hgrow3 hown3 _; have Hrow3 := Lib.hid hrow3; have Ho3 := Lib.hid (((Only.refl Non w2).alloc (.cells #[.int .i64 (c.f 0), .int .i64 (c.f 1), .int .i64 (c.f 2), .int .i64 (c.f 3), .int .i64 (c.f 4), .int .i64 (c.f 5), .int .i64 (c.f 6), .int .i64 (c.f 7), .int .i64 (c.f 8)] 3)).trans' hgrow3 fun k hk => (ownB_none hk).elim); clear hrow3 hgrow3)
  have Hn3 := Lib.hid (show ∀ k, ownB v3 k → w2.heap.size ≤ k from fun k hk => (hown3 k hk).elim (fun h => (ownB_none h).elim) fun h => by simp at h; omega)
  clear hown3 x0 x1 x2 x3 x4 x5 x6 x7 x8 x9 x10 x11 x12 x13 x14 x15 x16
  have HB3 := Lib.hid (Ho3.out.box HB2.out id)
  have x0 := HB3.out.cellAt (cfgCells_at c (.slice A c.h.length cp) (i := 0) (by omega))
  have x1 := HB3.out.cellAt (cfgCells_at c (.slice A c.h.length cp) (i := 1) (by omega))
  have x2 := HB3.out.cellAt (cfgCells_at c (.slice A c.h.length cp) (i := 2) (by omega))
  have x3 := HB3.out.cellAt (cfgCells_at c (.slice A c.h.length cp) (i := 3) (by omega))
  have x4 := HB3.out.cellAt (cfgCells_at c (.slice A c.h.length cp) (i := 4) (by omega))
  have x5 := HB3.out.cellAt (cfgCells_at c (.slice A c.h.length cp) (i := 5) (by omega))
  have x6 := HB3.out.cellAt (cfgCells_at c (.slice A c.h.length cp) (i := 6) (by omega))
  have x7 := HB3.out.cellAt (cfgCells_at c (.slice A c.h.length cp) (i := 7) (by omega))
  have x8 := HB3.out.cellAt (cfgCells_at c (.slice A c.h.length cp) (i := 8) (by omega))
  have x9 := HB3.out.cellAt (cfgCells_at c (.slice A c.h.length cp) (i := 9) (by omega))
  have x10 := HB3.out.cellAt (cfgCells_at c (.slice A c.h.length cp) (i := 10) (by omega))
  have x11 := HB3.out.cellAt (cfgCells_at c (.slice A c.h.length cp) (i := 11) (by omega))
  have x12 := HB3.out.cellAt (cfgCells_at c (.slice A c.h.length cp) (i := 12) (by omega))
  have x13 := HB3.out.cellAt (cfgCells_at c (.slice A c.h.length cp) (i := 13) (by omega))
  have x14 := HB3.out.cellAt (cfgCells_at c (.slice A c.h.length cp) (i := 14) (by omega))
  have x15 := HB3.out.cellAt (cfgCells_at c (.slice A c.h.length cp) (i := 15) (by omega))
  have x16 := HB3.out.cellAt (cfgCells_hs c (.slice A c.h.length cp))
  have Hr3 := Lib.hid (Hrow3.out.only ((Only.refl Non w3).alloc (.cells #[.int .i64 (c.f 9), .int .i64 (c.f 10), .int .i64 (c.f 11), .int .i64 (c.f 12), .int .i64 (c.f 13), .int .i64 (c.f 14), .int .i64 (c.f 15), .int .i64 c.h.length] 3)) fun _ _ => id)
  go_upto_region 6 with (at_builtin; refine wpList_append_row _ rfl (.tmp 36) (.tmp 57) 73 3 rfl intInfo rfl Try.underlying73 v3 _ rfl Hr3.out (some ⟨w3.heap.size, 0, none⟩) 8 8 [.int .i64 (c.f 9), .int .i64 (c.f 10), .int .i64 (c.f 11), .int .i64 (c.f 12), .int .i64 (c.f 13), .int .i64 (c.f 14), .int .i64 (c.f 15), .int .i64 c.h.length] rfl rfl (lits_src w3 [.int .i64 (c.f 9), .int .i64 (c.f 10), .int .i64 (c.f 11), .int .i64 (c.f 12), .int .i64 (c.f 13), .int .i64 (c.f 14), .int .i64 (c.f 15), .int .i64 c.h.length] 3) (by simp [Value.oneCell']) (by simp [maxLen]) (by simp) ?_; intro v4 w4 hrow4 hgrow4 hown4 _; have Hrow4 := Lib.hid (show Row 3 w4 v4 (ints (L17 c)) from hrow4); have Ho4 := Lib.hid ((Ho3.out.alloc (.cells #[.int .i64 (c.f 9), .int .i64 (c.f 10), .int .i64 (c.f 11), .int .i64 (c.f 12), .int .i64 (c.f 13), .int .i64 (c.f 14), .int .i64 (c.f 15), .int .i64 c.h.length] 3)).trans' hgrow4 fun k hk => .inr (Hn3.out k hk)); clear hrow4 hgrow4 hown4)
  clear x0 x1 x2 x3 x4 x5 x6 x7 x8 x9 x10 x11 x12 x13 x14 x15 x16 HB3 Hr3 Hr0 HB1
  obtain ⟨g4, q4, e4, _⟩ := Hrow4.out.cell (i := 0) rfl
  have e4 : v4 = .slice (some ⟨g4, 0, none⟩) 17 q4 := e4
  subst e4
  have HB4 := Lib.hid (Ho4.out.box HB2.out id)
  have HO4 := Lib.hid (Ho2.out.transN Ho4.out)
  have HL4 := Lib.hid (show ∀ k, k < 17 → w4.cell? ⟨g4, k, none⟩ = some (.int .i64 ((L17 c).getD k 0)) from fun k hk => by
    obtain ⟨g, q, e, h, _⟩ := Hrow4.out.cell (i := k) (u := .int .i64 ((L17 c).getD k 0)) (by
      have hl : k < (L17 c).length := hk
      simp [ints, List.getD, hl])
    injection e with e
    injection e with e
    injection e with e
    rw [e]; exact h)
  clear Hrow4 Hrow3 Hn3 Ho3 HB2 Ho4
  go_wp2_with fail
  go_loopw [5, 6] (fun b i wr => RpRel1 c w4 b i wr) (fun _ i _ => 17 - (intOf i).toNat)
  case atStart => exact ⟨0, by omega, rfl, Row.nil_ _ _, Only.refl _ _, fun k hk => (ownB_none hk).elim⟩
  case round =>
    obtain ⟨k, hk, rfl, hb⟩ := hrel
    have Hb := Lib.hid hb
    clear hb
    by_cases hlt : k < 17
    · have hlti : (k : Int) < 17 := by omega
      have hN : (L17 c).getD k 0 = (((L17 c).getD k 0).toNat : Nat) := by have := (L17_range HC.out k hlt).1; omega
      have xk : wr.cell? ⟨g4, k, none⟩ = some (.int .i64 (((L17 c).getD k 0).toNat : Nat)) := by rw [← hN]; exact Hb.out.2.1.cell (HL4.out k hlt) id
      have hNr : ((L17 c).getD k 0).toNat < 2 ^ 63 := by have := (L17_range HC.out k hlt).2; omega
      clear hN
      generalize hNN : ((L17 c).getD k 0).toNat = N at *
      have HN := Lib.hid hNN
      clear hNN
      have HP := Lib.hid (refput_any N wr hNr)
      go_wp2_with fail
      refine HP.out.mono ?_
      rintro e wr5 ⟨v5, rfl, hrow5, ho5, hown5⟩
      have Hb5 := Lib.hid (Hb.out.only ho5)
      have Hrow5 := Lib.hid hrow5
      clear hrow5 ho5 hown5
      go_wp2_with (at_builtin; refine wpList_bld w4 wr5 rfl (.tmp 65) (.tmp 70) rfl _ _ rfl Hb5.out _ _ rfl Hrow5.out (by have := numsB_len (fun i => (L17 c).getD i 0) k; have := (encN_len N).2; omega) ?_; intro v6 w6 hb6 _; have Hb6 := Lib.hid hb6; clear hb6)
      have HR := Lib.hid (show RpRel1 c w4 v6 (.int .i64 ((k : Int) + 1)) w6 from ⟨k + 1, hlt, by simp, by rw [numsB_succ, HN.out]; exact Hb6.out⟩)
      refine ⟨?_, ?_⟩
      · (repeat first | exact ⟨HR.out, rfl⟩ | exact HR.out | apply Exists.intro)
      · simp [intOf]; omega
    · obtain rfl : k = 17 := by omega
      have Hb' := Lib.hid (show Bld w4 wr _ (confH c) from by rw [← L17_numsB c]; exact Hb.out)
      clear hk hlt
      go_wp2_with fail
      go_loopw [5, 7] (fun b i wr => RpRel2 c w4 b i wr) (fun _ i _ => c.h.length - (intOf i).toNat)
      case atStart => exact ⟨0, Nat.zero_le _, rfl, by rw [hsB_zero, List.append_nil]; exact Hb'.out⟩
      case round =>
        clear Hb Hb'
        obtain ⟨k, hk, rfl, hb⟩ := hrel
        have HaW := Lib.hid (H.out.keep (HO4.out.transN hb.2.1))
        have y12 : wr.cell? ⟨w.heap.size, 16, none⟩ = some (.slice A c.h.length cp) := (hb.2.1.box HB4.out id).cellAt (cfgCells_hs c _)
        have Hb := Lib.hid hb
        clear hb
        by_cases hlt : k < c.h.length
        · obtain ⟨g, o, rfl, hg, x0, x1, x2, x3⟩ := HaW.out.at_ k hlt
          have hltb : (k : Int) < c.h.length := by omega
          have Hlt := Lib.hid hlt
          have Hnn := Lib.hid (okH_nums HC.out.p2.2 (HC.out.hs.1 k hlt))
          have Hpl := Lib.hid (show (confH c ++ hsB c.h k).length ≤ 2000 from by have := confH_len c; have := hsB_len c.h k; rw [List.length_append]; omega)
          have Hsc := Lib.hid (hsB_succ c.h hlt)
          generalize hx : c.h.getD k default = hd at *
          have Hx := Lib.hid hx
          clear hx
          generalize hpre : confH c ++ hsB c.h k = pre at *
          have Hpre := Lib.hid hpre
          clear hpre
          have hn0 : hd.fr = (hd.fr.toNat : Nat) := by have := (Hnn.out 0 (by omega)).1; unfold hn at this; simp at this; omega
          have hn1 : hd.size = (hd.size.toNat : Nat) := by have := (Hnn.out 1 (by omega)).1; unfold hn at this; simp at this; omega
          have hn2 : hd.often = (hd.often.toNat : Nat) := by have := (Hnn.out 2 (by omega)).1; unfold hn at this; simp at this; omega
          have Hm := Lib.hid (show hd.fr.toNat < 2 ^ 63 ∧ hd.size.toNat < 2 ^ 63 ∧ hd.often.toNat < 2 ^ 63 from by
            have h0 := (Hnn.out 0 (by omega)).2; have h1 := (Hnn.out 1 (by omega)).2; have h2 := (Hnn.out 2 (by omega)).2; unfold hn at h0 h1 h2; simp at h0 h1 h2; omega)
          have HhB := Lib.hid (show hintB hd = encN hd.fr.toNat ++ encN hd.size.toNat ++ encN hd.often.toNat ++ truthB hd.loop from by
            unfold hintB; rw [numsB_succ, numsB_succ, numsB_succ, numsB_zero, List.nil_append]; rfl)
          rw [hn0] at x0
          rw [hn1] at x1
          rw [hn2] at x2
          clear hn0 hn1 hn2
          generalize hd.fr.toNat = n0 at *
          generalize hd.size.toNat = n1 at *
          generalize hd.often.toNat = n2 at *
          generalize hd.loop = lp at *
          have HHb := Lib.hid (Box.fresh wr 66 #[.int .i64 n0, .int .i64 n1, .int .i64 n2, .bool lp])
          have HbX := Lib.hid (Hb.out.only ((Only.refl Non wr).alloc (.cells #[.int .i64 n0, .int .i64 n1, .int .i64 n2, .bool lp] 66)))
          have HnX := Lib.hid (Hb.out.lt)
          go_upto_region 15 with fail
          generalize wr.alloc (.cells #[.int .i64 n0, .int .i64 n1, .int .i64 n2, .bool lp] 66) = X at *
          generalize hhb : wr.heap.size = hb at *
          have Hhb := Lib.hid hhb
          clear hhb x0 x1 x2 x3 y12
          have z0 : X.cell? ⟨hb, 0, none⟩ = some (.int .i64 n0) := HHb.out.cellAt rfl
          have HP0 := Lib.hid (refput_any n0 X Hm.out.1)
          go_wp2_with fail
          refine HP0.out.mono ?_
          rintro e wr5 ⟨v5, rfl, hrow5, ho5, hown5⟩
          have Hb5 := Lib.hid (HbX.out.only ho5)
          have HHb5 := Lib.hid (ho5.box HHb.out id)
          have Hrow5 := Lib.hid hrow5
          clear hrow5 ho5 hown5 z0
          go_wp2_with (at_builtin; refine wpList_bld w4 wr5 rfl (.tmp 84) (.tmp 87) rfl _ _ rfl Hb5.out _ _ rfl Hrow5.out (by have := Hpl.out; have := (encN_len n0).2; omega) ?_; intro v6 w6 hb6 hk6; have Hb6 := Lib.hid hb6; have Hk6 := Lib.hid (hk6 _ _ _ HHb5.out HnX.out); have z1 : w6.cell? ⟨hb, 1, none⟩ = some (.int .i64 n1) := (hk6 _ _ _ HHb5.out HnX.out).1.cellAt rfl; clear hb6 hk6)
          refine (refput_any n1 w6 Hm.out.2.1).mono ?_
          rintro e wr7 ⟨v7, rfl, hrow7, ho7, hown7⟩
          have Hb7 := Lib.hid (Hb6.out.only ho7)
          have HHb7 := Lib.hid (ho7.box Hk6.out.1 id)
          have Hrow7 := Lib.hid hrow7
          clear hrow7 ho7 hown7 z1
          go_wp2_with (at_builtin; refine wpList_bld w4 wr7 rfl (.tmp 89) (.tmp 92) rfl _ _ rfl Hb7.out _ _ rfl Hrow7.out (by have := Hpl.out; have := (encN_len n0).2; have := (encN_len n1).2; rw [List.length_append]; omega) ?_; intro v8 w8 hb8 hk8; have Hb8 := Lib.hid hb8; have Hk8 := Lib.hid (hk8 _ _ _ HHb7.out Hk6.out.2); have z2 : w8.cell? ⟨hb, 2, none⟩ = some (.int .i64 n2) := (hk8 _ _ _ HHb7.out Hk6.out.2).1.cellAt rfl; clear hb8 hk8)
          refine (refput_any n2 w8 Hm.out.2.2).mono ?_
          rintro e wr9 ⟨v9, rfl, hrow9, ho9, hown9⟩
          have Hb9 := Lib.hid (Hb8.out.only ho9)
          have HHb9 := Lib.hid (ho9.box Hk8.out.1 id)
          have Hrow9 := Lib.hid hrow9
          clear hrow9 ho9 hown9 z2
          cases lp
          · go_wp2_with (first
              | (at_builtin; refine wpList_bld w4 wr9 rfl (.tmp 94) (.tmp 97) rfl _ _ rfl Hb9.out _ _ rfl Hrow9.out (by have := Hpl.out; have := (encN_len n0).2; have := (encN_len n1).2; have := (encN_len n2).2; rw [List.length_append, List.length_append]; omega) ?_; intro v10 w10 hb10 hk10; have Hb10 := Lib.hid hb10; have z3 : w10.cell? ⟨hb, 3, none⟩ = some (.bool false) := (hk10 _ _ _ HHb9.out Hk8.out.2).1.cellAt rfl; clear hb10 hk10)
              | (at_builtin; refine wpList_bld w4 _ rfl (.tmp 104) (.tmp 105) rfl _ _ rfl (Hb10.out.only ((Only.refl Non w10).alloc (.cells #[.int .u8 0] 5))) _ _ rfl (byte_row w10 0) (by have := Hpl.out; have := (encN_len n0).2; have := (encN_len n1).2; have := (encN_len n2).2; rw [List.length_append, List.length_append, List.length_append]; simp; omega) ?_; intro v11 w11 hb11 _; have Hb11 := Lib.hid hb11; clear hb11))
            have HR := Lib.hid (show RpRel2 c w4 v11 (.int .i64 ((k : Int) + 1)) w11 from ⟨k + 1, Hlt.out, by simp, by
              rw [Hsc.out, HhB.out, ← List.append_assoc, Hpre.out, ← List.append_assoc, ← List.append_assoc, ← List.append_assoc]
              exact Hb11.out⟩)
            refine ⟨?_, ?_⟩
            · (repeat first | exact ⟨HR.out, rfl⟩ | exact HR.out | apply Exists.intro)
            · simp [intOf]; omega
          · go_wp2_with (first
              | (at_builtin; refine wpList_bld w4 wr9 rfl (.tmp 94) (.tmp 97) rfl _ _ rfl Hb9.out _ _ rfl Hrow9.out (by have := Hpl.out; have := (encN_len n0).2; have := (encN_len n1).2; have := (encN_len n2).2; rw [List.length_append, List.length_append]; omega) ?_; intro v10 w10 hb10 hk10; have Hb10 := Lib.hid hb10; have z3 : w10.cell? ⟨hb, 3, none⟩ = some (.bool true) := (hk10 _ _ _ HHb9.out Hk8.out.2).1.cellAt rfl; clear hb10 hk10)
              | (at_builtin; refine wpList_bld w4 _ rfl (.tmp 101) (.tmp 102) rfl _ _ rfl (Hb10.out.only ((Only.refl Non w10).alloc (.cells #[.int .u8 1] 5))) _ _ rfl (byte_row w10 1) (by have := Hpl.out; have := (encN_len n0).2; have := (encN_len n1).2; have := (encN_len n2).2; rw [List.length_append, List.length_append, List.length_append]; simp; omega) ?_; intro v11 w11 hb11 _; have Hb11 := Lib.hid hb11; clear hb11))
            have HR := Lib.hid (show RpRel2 c w4 v11 (.int .i64 ((k : Int) + 1)) w11 from ⟨k + 1, Hlt.out, by simp, by
              rw [Hsc.out, HhB.out, ← List.append_assoc, Hpre.out, ← List.append_assoc, ← List.append_assoc, ← List.append_assoc]
              exact Hb11.out⟩)
            refine ⟨?_, ?_⟩
            · (repeat first | exact ⟨HR.out, rfl⟩ | exact HR.out | apply Exists.intro)
            · simp [intOf]; omega
        · have hkl : k = c.h.length := by omega
          have HF := Lib.hid (show Row 5 wr _ (bytes (confB c)) from by have := Hb.out.1; rw [hkl] at this; exact this)
          have Hof := Lib.hid (HO4.out.transN Hb.out.2.1)
          clear hlt
          subst hkl
          go_wp2_with fail
          go_ret2
          exact ⟨_, rfl, HF.out, Hof.out⟩
end
end Go.Proofs.Ytaofjnpmnaohcaa
