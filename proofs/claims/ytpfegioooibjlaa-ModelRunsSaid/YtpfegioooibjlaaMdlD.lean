/- Right, New, Tier, Run. -/
import Derived.Test.YtpfegioooibjlaaMdlC
namespace Go.Proofs.Ytpfegioooibjlaa
open Go.RowKit
set_option linter.unusedVariables false
set_option linter.unusedSimpArgs false
def okCap (c : Int) : Bool := decide (1 ≤ c) && decide (c ≤ 16)
def rightC (c0 c1 c2 : Int) : Bool := okCap c0 && okCap c1 && okCap c2
def capAt (c0 c1 c2 : Int) (k : Nat) : Int := [c0, c1, c2].getD k 0
theorem right_no {c0 c1 c2 : Int} {k : Nat} (hk : k < 3) (h : okCap (capAt c0 c1 c2 k) = false) : rightC c0 c1 c2 = false := by
  unfold rightC
  rcases (show k = 0 ∨ k = 1 ∨ k = 2 by omega) with rfl | rfl | rfl
  · rw [show okCap c0 = false from h]; rfl
  · rw [show okCap c1 = false from h]; cases okCap c0 <;> rfl
  · rw [show okCap c2 = false from h]; cases okCap c0 <;> cases okCap c1 <;> rfl
theorem right_yes {c0 c1 c2 : Int} (h : ∀ k, k < 3 → okCap (capAt c0 c1 c2 k) = true) : rightC c0 c1 c2 = true := by
  unfold rightC
  rw [show okCap c0 = true from h 0 (by omega), show okCap c1 = true from h 1 (by omega), show okCap c2 = true from h 2 (by omega)]; rfl
def RtRel (c0 c1 c2 : Int) (w : World) (i : Value) (wr : World) : Prop := ∃ k : Nat, k ≤ 3 ∧ i = .int .i64 k ∧ (∀ j, j < k → okCap (capAt c0 c1 c2 j) = true) ∧ w = wr
section
set_option maxHeartbeats 2000000
set_option maxRecDepth 100000
theorem right_any (c0 c1 c2 : Int) (w : World) : Calls Try.prog 9 #[.agg #[.int .i64 c0, .int .i64 c1, .int .i64 c2]] w fun e w' => e = .returned (.bool (rightC c0 c1 c2)) ∧ Only Non w w' := by
  have hb := Box.fresh w 22 #[.int .i64 c0, .int .i64 c1, .int .i64 c2]
  have hal : Only Non w (w.alloc (.cells #[.int .i64 c0, .int .i64 c1, .int .i64 c2] 22)) := (Only.refl _ _).alloc _
  have Hb := Lib.hid hb
  have Hal := Lib.hid hal
  clear hb hal
  go_enter Try.func9, Try.ntmps9
  go_wp2_with fail
  generalize w.alloc (.cells #[.int .i64 c0, .int .i64 c1, .int .i64 c2] 22) = W at *
  go_loopw [3] (fun i wr => RtRel c0 c1 c2 W i wr) (fun i _ => 3 - (intOf i).toNat)
  case atStart => exact ⟨0, by omega, rfl, fun j hj => absurd hj (by omega), rfl⟩
  case round =>
    obtain ⟨k, hk, rfl, hok, rfl⟩ := hrel
    have Hok := Lib.hid hok; clear hok
    by_cases hlt : k < 3
    · have hc : W.cell? ⟨w.heap.size, k, none⟩ = some (.int .i64 (capAt c0 c1 c2 k)) := by
        rcases (show k = 0 ∨ k = 1 ∨ k = 2 by omega) with rfl | rfl | rfl <;> exact Hb.out.cellAt rfl
      have Hno := Lib.hid (fun h => right_no (c0 := c0) (c1 := c1) (c2 := c2) hlt h)
      have Hst := Lib.hid (fun (h : okCap (capAt c0 c1 c2 k) = true) j (hj : j < k + 1) => (show okCap (capAt c0 c1 c2 j) = true from by
        rcases Nat.lt_or_ge j k with h' | h'
        · exact Hok.out j h'
        · obtain rfl : j = k := by omega
          exact h))
      generalize hx : capAt c0 c1 c2 k = x at *
      have Hx := Lib.hid hx; clear hx
      by_cases h1 : 1 ≤ x
      · by_cases h2 : x ≤ 16
        · have h1' : ¬ x < 1 := by omega
          have h2' : ¬ 16 < x := by omega
          go_wp2_with fail
          go_roundw
          case rel => exact ⟨k + 1, by omega, by go_num, Hst.out (by simp [okCap, h1, h2]), by trivial⟩
          case measure => simp [intOf]; omega
        · have h1' : ¬ x < 1 := by omega
          have h2' : 16 < x := by omega
          have Hr := Lib.hid (Hno.out (by simp [okCap, h2]))
          go_wp2_with fail
          go_ret
          exact ⟨by rw [Hr.out]; rfl, Hal.out⟩
      · have h1' : x < 1 := by omega
        have Hr := Lib.hid (Hno.out (by simp [okCap, h1]))
        go_wp2_with fail
        go_ret
        exact ⟨by rw [Hr.out]; rfl, Hal.out⟩
    · obtain rfl : k = 3 := by omega
      have Hy := Lib.hid (right_yes Hok.out)
      go_wp2_with fail
      go_ret
      exact ⟨by rw [Hy.out]; rfl, Hal.out⟩
def MNewPost (base : Nat) (c0 c1 c2 : Int) (w : World) (e : Ending) (w' : World) : Prop :=
  if rightC c0 c1 c2 then ∃ lb F, e = .returned (.tuple #[.pointer (some ⟨lb, 0, none⟩), .int .i64 0]) ∧ MdlIs w' base lb F c0.toNat c1.toNat c2.toNat [] 0 ∧ (∀ k, F k → w.heap.size ≤ k) ∧ Only Non w w'
  else e = .returned (.tuple #[.pointer none, .int .i64 6]) ∧ Only Non w w'
theorem right_bd {c0 c1 c2 : Int} (h : rightC c0 c1 c2 = true) : 1 ≤ c0 ∧ c0 ≤ 16 ∧ 1 ≤ c1 ∧ c1 ≤ 16 ∧ 1 ≤ c2 ∧ c2 ≤ 16 := by
  simp only [rightC, okCap, Bool.and_eq_true, decide_eq_true_eq] at h
  omega
theorem mdl_fresh (base lb : Nat) (c0 c1 c2 : Int) (w : World) (h : rightC c0 c1 c2 = true) (hb : Box w lb 44 #[.int .i64 c0, .int .i64 c1, .int .i64 c2, .slice none 0 0, .int .i64 0]) (hbase : base ≤ lb) :
    MdlIs w base lb (fun k => k = lb) c0.toNat c1.toNat c2.toNat [] 0 := by
  have hc := right_bd h
  refine ⟨.slice none 0 0, { box := ?_, row := Row.nil_ _ _, foot := fun k => ⟨.inl, fun h => h.elim id fun h => (ownB_none h).elim⟩, hi := fun k hk => by omega, caps := by omega, len := Nat.zero_le _ }⟩
  rw [Int.toNat_of_nonneg (by omega), Int.toNat_of_nonneg (by omega), Int.toNat_of_nonneg (by omega)]
  exact hb
theorem mnew_any (base : Nat) (c0 c1 c2 : Int) (w : World) (hbase : base ≤ w.heap.size) : Calls Try.prog 8 #[.agg #[.int .i64 c0, .int .i64 c1, .int .i64 c2]] w (MNewPost base c0 c1 c2 w) := by
  have hb := Box.fresh w 22 #[.int .i64 c0, .int .i64 c1, .int .i64 c2]
  have hal : Only Non w (w.alloc (.cells #[.int .i64 c0, .int .i64 c1, .int .i64 c2] 22)) := (Only.refl _ _).alloc _
  have Hb := Lib.hid hb
  have Hal := Lib.hid hal
  have d0 : (w.alloc (.cells #[.int .i64 c0, .int .i64 c1, .int .i64 c2] 22)).cell? ⟨w.heap.size, 0, none⟩ = some (.int .i64 c0) := hb.cellAt rfl
  have d1 : (w.alloc (.cells #[.int .i64 c0, .int .i64 c1, .int .i64 c2] 22)).cell? ⟨w.heap.size, 1, none⟩ = some (.int .i64 c1) := hb.cellAt rfl
  have d2 : (w.alloc (.cells #[.int .i64 c0, .int .i64 c1, .int .i64 c2] 22)).cell? ⟨w.heap.size, 2, none⟩ = some (.int .i64 c2) := hb.cellAt rfl
  have Hsz := Lib.hid (show w.heap.size < (w.alloc (.cells #[.int .i64 c0, .int .i64 c1, .int .i64 c2] 22)).heap.size from hb.lt)
  clear hb hal
  go_enter Try.func8, Try.ntmps8
  go_wp2_with fail
  generalize w.alloc (.cells #[.int .i64 c0, .int .i64 c1, .int .i64 c2] 22) = W at *
  go_loopw [7] (fun i wr => RtRel c0 c1 c2 W i wr) (fun i _ => 3 - (intOf i).toNat)
  case atStart => exact ⟨0, by omega, rfl, fun j hj => absurd hj (by omega), rfl⟩
  case round =>
    obtain ⟨k, hk, rfl, hok, rfl⟩ := hrel
    have Hok := Lib.hid hok; clear hok
    by_cases hlt : k < 3
    · have Hno := Lib.hid (fun h => right_no (c0 := c0) (c1 := c1) (c2 := c2) hlt h)
      have Hst := Lib.hid (fun (h : okCap (capAt c0 c1 c2 k) = true) j (hj : j < k + 1) => (show okCap (capAt c0 c1 c2 j) = true from by
        rcases Nat.lt_or_ge j k with h' | h'
        · exact Hok.out j h'
        · obtain rfl : j = k := by omega
          exact h))
      have hidx := fun w => run_index_agg (P := Try.prog) w 22 3 3 #[.int .i64 c0, .int .i64 c1, .int .i64 c2] .i64 k (.int .i64 (capAt c0 c1 c2 k)) Try.underlying22 (by kernel_rfl) (by kernel_rfl) (by omega) (by omega) (by
        rw [Int.toNat_natCast]
        rcases (show k = 0 ∨ k = 1 ∨ k = 2 by omega) with rfl | rfl | rfl <;> rfl)
      generalize hx : capAt c0 c1 c2 k = x at *
      have Hx := Lib.hid hx; clear hx
      by_cases h1 : 1 ≤ x
      · by_cases h2 : x ≤ 16
        · have h1' : ¬ x < 1 := by omega
          have h2' : ¬ 16 < x := by omega
          have Hy := Lib.hid (Hst.out (by simp [okCap, h1, h2]))
          go_wp2_with fail
          go_roundw
          case rel => exact ⟨k + 1, by omega, by go_num, Hy.out, by trivial⟩
          case measure => simp [intOf]; omega
        · have h1' : ¬ x < 1 := by omega
          have h2' : 16 < x := by omega
          have Hr := Lib.hid (Hno.out (by simp [okCap, h2]))
          go_wp2_with fail
          go_ret2
          rw [MNewPost, Hr.out, if_neg (by decide)]
          exact ⟨rfl, Hal.out⟩
      · have h1' : x < 1 := by omega
        have Hr := Lib.hid (Hno.out (by simp [okCap, h1]))
        go_wp2_with fail
        go_ret2
        rw [MNewPost, Hr.out, if_neg (by decide)]
        exact ⟨rfl, Hal.out⟩
    · obtain rfl : k = 3 := by omega
      have Hy := Lib.hid (right_yes Hok.out)
      clear hlt
      go_wp2_with fail
      go_ret2
      rw [MNewPost, Hy.out, if_pos rfl]
      have hbl := Box.fresh W 44 #[.int .i64 c0, .int .i64 c1, .int .i64 c2, .slice none 0 0, .int .i64 0]
      refine ⟨W.heap.size, _, rfl, mdl_fresh base _ c0 c1 c2 _ Hy.out hbl (by have := Hsz.out; omega), fun k hk => ?_, Hal.out.alloc _⟩
      have := Hsz.out
      omega
end
end Go.Proofs.Ytpfegioooibjlaa
