/- An act: replay.right, folded, unfolded; the document's number, Right, folded. Printed by acts.py. -/
import Derived.Test.YtaofjnpmnaohcaaRplL
import Derived.Test.YtaofjnpmnaohcaaCfgL
import Derived.Test.YtaofjnpmnaohcaaRawC
import Derived.Deep.CutRange
namespace Go.Proofs.Ytaofjnpmnaohcaa
open Go.RowKit
set_option linter.unusedVariables false
set_option linter.unusedSimpArgs false
def ActP (a : ActR) : Prop := (1 ≤ a.kind ∧ a.kind ≤ 10) ∧ (-1099511627776 ≤ a.a ∧ a.a ≤ 1099511627776) ∧ (-1099511627776 ≤ a.b ∧ a.b ≤ 1099511627776) ∧ (-1099511627776 ≤ a.n ∧ a.n ≤ 1099511627776) ∧ a.data.length ≤ 64
theorem okAct_iff {a : ActR} : okAct a = true ↔ ActP a := by
  unfold okAct okNum ActP
  simp only [Bool.and_eq_true, decide_eq_true_eq]
  constructor
  · rintro ⟨⟨⟨⟨⟨h1, h2⟩, h3⟩, h4⟩, h5⟩, h6⟩; exact ⟨⟨h1, h2⟩, h3, h4, h5, h6⟩
  · rintro ⟨⟨h1, h2⟩, h3, h4, h5, h6⟩; exact ⟨⟨⟨⟨⟨h1, h2⟩, h3⟩, h4⟩, h5⟩, h6⟩
theorem okAct_no {a : ActR} (h : ¬ ActP a) : okAct a = false := by
  rw [Bool.eq_false_iff]; exact fun e => h (okAct_iff.1 e)
theorem okAct_yes {a : ActR} (h : ActP a) : okAct a = true := okAct_iff.2 h
def anum (a : ActR) (i : Nat) : Int := if i = 0 then a.a else if i = 1 then a.b else a.n
theorem anum_all {a : ActR} (h : ∀ j, j < 3 → -1099511627776 ≤ anum a j ∧ anum a j ≤ 1099511627776) : (-1099511627776 ≤ a.a ∧ a.a ≤ 1099511627776) ∧ (-1099511627776 ≤ a.b ∧ a.b ≤ 1099511627776) ∧ (-1099511627776 ≤ a.n ∧ a.n ≤ 1099511627776) := ⟨h 0 (by omega), h 1 (by omega), h 2 (by omega)⟩
theorem anum_one {a : ActR} (p : ActP a) {j : Nat} (hj : j < 3) : -1099511627776 ≤ anum a j ∧ anum a j ≤ 1099511627776 := by
  rcases (show j = 0 ∨ j = 1 ∨ j = 2 from by omega) with rfl | rfl | rfl
  · exact p.2.1
  · exact p.2.2.1
  · exact p.2.2.2.1
def actV (a : ActR) (d : Value) : Value := .agg #[.int .i64 a.kind, .int .i64 a.a, .int .i64 a.b, .int .i64 a.n, d]
def ArRel (a : ActR) (w1 : World) (i : Value) (wr : World) : Prop := ∃ q : Nat, q ≤ 3 ∧ i = .int .i64 q ∧ (∀ j, j < q → -1099511627776 ≤ anum a j ∧ anum a j ≤ 1099511627776) ∧ wr = w1
section
set_option maxHeartbeats 2000000
set_option maxRecDepth 100000
theorem number_yes {n : Int} (h : -1099511627776 ≤ n ∧ n ≤ 1099511627776) (w : World) : Calls Try.prog 34 #[.int .i64 n] w fun e w' => e = .returned (.bool true) ∧ w = w' := by
  obtain ⟨h1, h2⟩ := h
  go_enter Try.func34, Try.ntmps34
  go_wp2_with fail
  go_ret
  exact ⟨rfl, rfl⟩
theorem number_no {n : Int} (h : ¬ (-1099511627776 ≤ n ∧ n ≤ 1099511627776)) (w : World) : Calls Try.prog 34 #[.int .i64 n] w fun e w' => e = .returned (.bool false) ∧ w = w' := by
  by_cases h1 : -1099511627776 ≤ n
  · have h2 : ¬ n ≤ 1099511627776 := by omega
    clear h
    go_enter Try.func34, Try.ntmps34
    go_wp2_with fail
    go_ret
    exact ⟨rfl, rfl⟩
  · clear h
    go_enter Try.func34, Try.ntmps34
    go_wp2_with fail
    go_ret
    exact ⟨rfl, rfl⟩
theorem folded_eq_neg {n : Int} (h : n < 0) : ((foldedN n : Nat) : Int) = -2 * n := by unfold foldedN; rw [if_pos h]; omega
theorem folded_eq_pos {n : Int} (h : ¬ n < 0) : ((foldedN n : Nat) : Int) = 2 * n + 1 := by unfold foldedN; rw [if_neg h]; omega
theorem folded_any {n : Int} (h : -1099511627776 ≤ n ∧ n ≤ 1099511627776) (w : World) : Calls Try.prog 18 #[.int .i64 n] w fun e w' => e = .returned (.int .i64 (foldedN n)) ∧ w = w' := by
  obtain ⟨h1, h2⟩ := h
  by_cases hn : n < 0
  · have Hf := Lib.hid (folded_eq_neg hn)
    have e1 : IntKind.i64.wrap (-2 * n) = -2 * n := IntWalk.i64_in _ (by omega)
    have e2 : IntKind.i64.wrap (-(2 * n)) = -(2 * n) := IntWalk.i64_in _ (by omega)
    go_enter Try.func18, Try.ntmps18
    go_wp2_with fail
    go_ret
    exact ⟨by rw [Hf.out]; first | rfl | (congr 2; omega), rfl⟩
  · have Hf := Lib.hid (folded_eq_pos hn)
    have e1 : IntKind.i64.wrap (2 * n) = 2 * n := IntWalk.i64_in _ (by omega)
    have e2 : IntKind.i64.wrap (2 * n + 1) = 2 * n + 1 := IntWalk.i64_in _ (by omega)
    go_enter Try.func18, Try.ntmps18
    go_wp2_with fail
    go_ret
    exact ⟨by rw [Hf.out]; rfl, rfl⟩
theorem unfolded_any (N : Nat) (h : N < 2 ^ 62) (w : World) : Calls Try.prog 40 #[.int .i64 N] w fun e w' => e = .returned (.int .i64 (unfoldedN N)) ∧ w = w' := by
  have e0 : IntKind.i64.wrap ((N : Int) / 2) = (N : Int) / 2 := IntWalk.i64_in _ (by omega)
  have e1 : IntKind.i64.wrap (-((N : Int) / 2)) = -((N : Int) / 2) := IntWalk.i64_in _ (by omega)
  have t0 : Int.tdiv (N : Int) 2 = (N : Int) / 2 := by rw [Int.tdiv_eq_ediv_of_nonneg (by omega)]
  by_cases hn : N % 2 = 0
  · have Hu := Lib.hid (show unfoldedN N = -((N : Int) / 2) from by unfold unfoldedN; rw [if_pos hn]; omega)
    have t1 : Int.tmod (N : Int) 2 = 0 := by rw [Int.tmod_eq_emod_of_nonneg (by omega)]; omega
    have t2 : (N : Int) % 2 = 0 := by omega
    clear hn
    go_enter Try.func40, Try.ntmps40
    go_wp2_with fail
    go_ret
    exact ⟨by rw [Hu.out]; rfl, rfl⟩
  · have Hu := Lib.hid (show unfoldedN N = (N : Int) / 2 from by unfold unfoldedN; rw [if_neg hn]; omega)
    have t1 : Int.tmod (N : Int) 2 = 1 := by rw [Int.tmod_eq_emod_of_nonneg (by omega)]; omega
    have t2 : (N : Int) % 2 = 1 := by omega
    clear hn
    go_enter Try.func40, Try.ntmps40
    go_wp2_with fail
    go_ret
    exact ⟨by rw [Hu.out]; rfl, rfl⟩
theorem aright_any (a : ActR) (dA : Option Addr) (dn dc : Nat) (w : World) (hd : dn = a.data.length) (hc : dn ≤ maxLen) :
    Calls Try.prog 17 #[.agg #[.int .i64 a.kind, .int .i64 a.a, .int .i64 a.b, .int .i64 a.n, .slice dA dn dc]] w fun e w' => e = .returned (.bool (okAct a)) ∧ Only Non w w' := by
  have hdn := Lib.hid hd
  unfold maxLen at hc
  clear hd
  go_enter Try.func17, Try.ntmps17
  go_wp2_with fail
  have HO := Lib.hid (show Only Non w (w.alloc (.cells #[.int .i64 a.kind, .int .i64 a.a, .int .i64 a.b, .int .i64 a.n, .slice dA dn dc] 47)) from (Only.refl _ _).alloc _)
  have HB := Lib.hid (Box.fresh w 47 #[.int .i64 a.kind, .int .i64 a.a, .int .i64 a.b, .int .i64 a.n, .slice dA dn dc])
  go_loopw [12] (fun i wr => ArRel a (w.alloc (.cells #[.int .i64 a.kind, .int .i64 a.a, .int .i64 a.b, .int .i64 a.n, .slice dA dn dc] 47)) i wr) (fun i _ => 3 - (intOf i).toNat)
  case atStart => exact ⟨0, by omega, rfl, fun j hj => absurd hj (by omega), rfl⟩
  case round =>
    generalize w.alloc (.cells #[.int .i64 a.kind, .int .i64 a.a, .int .i64 a.b, .int .i64 a.n, .slice dA dn dc] 47) = w1 at *
    obtain ⟨q, hq, rfl, hl, rfl⟩ := hrel
    have HL := Lib.hid hl
    clear hl
    by_cases hlt : q < 3
    · have hlti : (q : Int) < 3 := by omega
      have hidx := fun w => run_index_agg (P := Try.prog) w 22 3 3 #[.int .i64 a.a, .int .i64 a.b, .int .i64 a.n] .i64 q (.int .i64 (anum a q)) Try.underlying22 (by kernel_rfl) (by kernel_rfl) (by omega) (by omega) (by
        rcases (show q = 0 ∨ q = 1 ∨ q = 2 from by omega) with rfl | rfl | rfl <;> rfl)
      by_cases h1 : anum a q < -1099511627776
      · have Hr := Lib.hid (okAct_no (a := a) fun p => by have := (anum_one p hlt).1; omega)
        go_wp2_with fail
        go_ret
        exact ⟨by rw [Hr.out]; rfl, HO.out⟩
      by_cases h2 : 1099511627776 < anum a q
      · have Hr := Lib.hid (okAct_no (a := a) fun p => by have := (anum_one p hlt).2; omega)
        go_wp2_with fail
        go_ret
        exact ⟨by rw [Hr.out]; rfl, HO.out⟩
      have HR := Lib.hid (show ArRel a wr (.int .i64 ((q : Int) + 1)) wr from ⟨q + 1, hlt, by simp, fun j hj => by
        rcases Nat.lt_or_ge j q with h | h
        · exact HL.out j h
        · obtain rfl : j = q := by omega
          omega, rfl⟩)
      go_wp2_with fail
      refine ⟨?_, ?_⟩
      · (repeat first | exact ⟨HR.out, rfl⟩ | exact HR.out | apply Exists.intro)
      · simp [intOf]; omega
    · obtain rfl : q = 3 := by omega
      have HA := Lib.hid (anum_all HL.out)
      have x0 : wr.cell? ⟨w.heap.size, 0, none⟩ = some (.int .i64 a.kind) := HB.out.cellAt rfl
      have x4 : wr.cell? ⟨w.heap.size, 4, none⟩ = some (.slice dA dn dc) := HB.out.cellAt rfl
      clear hq hlt
      by_cases k1 : 1 ≤ a.kind
      rotate_left
      · have Hr := Lib.hid (okAct_no (a := a) fun p => k1 p.1.1)
        go_wp2_with fail
        go_ret
        exact ⟨by rw [Hr.out]; rfl, HO.out⟩
      by_cases k2 : a.kind ≤ 10
      rotate_left
      · have Hr := Lib.hid (okAct_no (a := a) fun p => k2 p.1.2)
        go_wp2_with fail
        go_ret
        exact ⟨by rw [Hr.out]; rfl, HO.out⟩
      by_cases k3 : a.data.length ≤ 64
      rotate_left
      · have k4 : ¬ (dn : Int) ≤ 64 := by have := hdn.out; omega
        have Hr := Lib.hid (okAct_no (a := a) fun p => k3 p.2.2.2.2)
        go_wp2_with fail
        go_ret
        exact ⟨by rw [Hr.out]; first | rfl | (show Ending.returned (.bool (decide ((dn : Int) ≤ 64))) = _; rw [decide_eq_false (by omega)]), HO.out⟩
      have k4 : (dn : Int) ≤ 64 := by have := hdn.out; omega
      have Hr := Lib.hid (okAct_yes (a := a) ⟨⟨k1, k2⟩, HA.out.1, HA.out.2.1, HA.out.2.2, k3⟩)
      go_wp2_with fail
      go_ret
      exact ⟨by rw [Hr.out]; rfl, HO.out⟩
theorem refright_any (a : ActR) (dA : Option Addr) (dn dc : Nat) (w : World) (hd : dn = a.data.length) (hc : dn ≤ maxLen) :
    Calls Try.prog 22 #[.agg #[.int .i64 a.kind, .int .i64 a.a, .int .i64 a.b, .int .i64 a.n, .slice dA dn dc]] w fun e w' => e = .returned (.bool (okAct a)) ∧ Only Non w w' := by
  have hdn := Lib.hid hd
  unfold maxLen at hc
  clear hd
  have HO := Lib.hid (show Only Non w (w.alloc (.cells #[.int .i64 a.kind, .int .i64 a.a, .int .i64 a.b, .int .i64 a.n, .slice dA dn dc] 47)) from (Only.refl _ _).alloc _)
  have HB := Lib.hid (Box.fresh w 47 #[.int .i64 a.kind, .int .i64 a.a, .int .i64 a.b, .int .i64 a.n, .slice dA dn dc])
  go_enter Try.func22, Try.ntmps22
  go_upto_region 1 with fail
  generalize w.alloc (.cells #[.int .i64 a.kind, .int .i64 a.a, .int .i64 a.b, .int .i64 a.n, .slice dA dn dc] 47) = w1 at *
  have x0 : w1.cell? ⟨w.heap.size, 0, none⟩ = some (.int .i64 a.kind) := HB.out.cellAt rfl
  have x1 : w1.cell? ⟨w.heap.size, 1, none⟩ = some (.int .i64 a.a) := HB.out.cellAt rfl
  have x2 : w1.cell? ⟨w.heap.size, 2, none⟩ = some (.int .i64 a.b) := HB.out.cellAt rfl
  have x3 : w1.cell? ⟨w.heap.size, 3, none⟩ = some (.int .i64 a.n) := HB.out.cellAt rfl
  have x4 : w1.cell? ⟨w.heap.size, 4, none⟩ = some (.slice dA dn dc) := HB.out.cellAt rfl
  by_cases k1 : 1 ≤ a.kind
  rotate_left
  · have Hr := Lib.hid (okAct_no (a := a) fun p => k1 p.1.1)
    go_wp2_with fail
    go_ret
    exact ⟨by rw [Hr.out]; rfl, HO.out⟩
  by_cases k2 : a.kind ≤ 10
  rotate_left
  · have Hr := Lib.hid (okAct_no (a := a) fun p => k2 p.1.2)
    go_wp2_with fail
    go_ret
    exact ⟨by rw [Hr.out]; rfl, HO.out⟩
  go_wp2_with fail
  by_cases hh : -1099511627776 ≤ a.a ∧ a.a ≤ 1099511627776
  rotate_left
  · have HN := Lib.hid hh
    clear hh
    have Hr := Lib.hid (okAct_no (a := a) fun p => HN.out p.2.1)
    refine (number_no HN.out _).mono ?_
    rintro e w5 ⟨rfl, e5⟩
    rw [← e5]
    clear e5
    go_wp2_with fail
    go_ret
    exact ⟨by rw [Hr.out]; rfl, HO.out⟩
  have Ha := Lib.hid hh
  clear hh
  refine (number_yes Ha.out _).mono ?_
  rintro e w5 ⟨rfl, e5⟩
  rw [← e5]
  clear e5
  go_wp2_with fail
  by_cases hh : -1099511627776 ≤ a.b ∧ a.b ≤ 1099511627776
  rotate_left
  · have HN := Lib.hid hh
    clear hh
    have Hr := Lib.hid (okAct_no (a := a) fun p => HN.out p.2.2.1)
    refine (number_no HN.out _).mono ?_
    rintro e w5 ⟨rfl, e5⟩
    rw [← e5]
    clear e5
    go_wp2_with fail
    go_ret
    exact ⟨by rw [Hr.out]; rfl, HO.out⟩
  have Hb := Lib.hid hh
  clear hh
  refine (number_yes Hb.out _).mono ?_
  rintro e w5 ⟨rfl, e5⟩
  rw [← e5]
  clear e5
  go_wp2_with fail
  by_cases hh : -1099511627776 ≤ a.n ∧ a.n ≤ 1099511627776
  rotate_left
  · have HN := Lib.hid hh
    clear hh
    have Hr := Lib.hid (okAct_no (a := a) fun p => HN.out p.2.2.2.1)
    refine (number_no HN.out _).mono ?_
    rintro e w5 ⟨rfl, e5⟩
    rw [← e5]
    clear e5
    go_wp2_with fail
    go_ret
    exact ⟨by rw [Hr.out]; rfl, HO.out⟩
  have Hn := Lib.hid hh
  clear hh
  refine (number_yes Hn.out _).mono ?_
  rintro e w5 ⟨rfl, e5⟩
  rw [← e5]
  clear e5
  by_cases k3 : a.data.length ≤ 64
  rotate_left
  · have k4 : ¬ (dn : Int) ≤ 64 := by have := hdn.out; omega
    have Hr := Lib.hid (okAct_no (a := a) fun p => k3 p.2.2.2.2)
    go_wp2_with fail
    go_ret
    exact ⟨by rw [Hr.out]; first | rfl | (show Ending.returned (.bool (decide ((dn : Int) ≤ 64))) = _; rw [decide_eq_false (by omega)]), HO.out⟩
  have k4 : (dn : Int) ≤ 64 := by have := hdn.out; omega
  have Hr := Lib.hid (okAct_yes (a := a) ⟨⟨k1, k2⟩, Ha.out, Hb.out, Hn.out, k3⟩)
  go_wp2_with fail
  go_ret
  exact ⟨by rw [Hr.out]; rfl, HO.out⟩
theorem reffolded_any {n : Int} (h : -1099511627776 ≤ n ∧ n ≤ 1099511627776) (w : World) : Calls Try.prog 35 #[.int .i64 n] w (Fresh (encN (foldedN n)) w) := by
  obtain ⟨h1, h2⟩ := h
  have Hlt := Lib.hid (show foldedN n < 2 ^ 63 from by unfold foldedN; split <;> omega)
  by_cases hn : n < 0
  · have hf : 0 - 2 * n = ((foldedN n : Nat) : Int) := by rw [folded_eq_neg hn]; omega
    have hf2 : -(2 * n) = ((foldedN n : Nat) : Int) := by rw [folded_eq_neg hn]; omega
    have e0 : IntKind.i64.wrap (2 * n) = 2 * n := IntWalk.i64_in _ (by omega)
    have e1 : IntKind.i64.wrap (((foldedN n : Nat) : Int)) = ((foldedN n : Nat) : Int) := IntWalk.i64_in _ (by omega)
    generalize foldedN n = N at *
    have HP := Lib.hid (refput_any N w Hlt.out)
    go_enter Try.func35, Try.ntmps35
    go_wp2_with fail
    refine HP.out.mono ?_
    rintro e wr ⟨v5, rfl, hrow, ho, hown⟩
    have HF := Lib.hid (And.intro hrow (And.intro ho hown))
    clear hrow ho hown
    go_wp2_with fail
    go_ret
    exact ⟨v5, rfl, HF.out.1, HF.out.2.1, HF.out.2.2⟩
  · have hf : 2 * n + 1 = ((foldedN n : Nat) : Int) := by rw [folded_eq_pos hn]
    have e0 : IntKind.i64.wrap (2 * n) = 2 * n := IntWalk.i64_in _ (by omega)
    have e1 : IntKind.i64.wrap (((foldedN n : Nat) : Int)) = ((foldedN n : Nat) : Int) := IntWalk.i64_in _ (by omega)
    generalize foldedN n = N at *
    have HP := Lib.hid (refput_any N w Hlt.out)
    go_enter Try.func35, Try.ntmps35
    go_wp2_with fail
    refine HP.out.mono ?_
    rintro e wr ⟨v5, rfl, hrow, ho, hown⟩
    have HF := Lib.hid (And.intro hrow (And.intro ho hown))
    clear hrow ho hown
    go_wp2_with fail
    go_ret
    exact ⟨v5, rfl, HF.out.1, HF.out.2.1, HF.out.2.2⟩
end
end Go.Proofs.Ytaofjnpmnaohcaa
