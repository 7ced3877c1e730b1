/- Several texts, one behind the other: Has Smi. -/
import Derived.Test.YtodephhlhdbeoaaGreatProg
import Derived.Test.YtodephhlhdbeoaaGreatM4
import Derived.BigQuiet
import Derived.Deep.QuietTactic
namespace Go.Proofs.YtodephhlhdbeoaaGreat
open Go.RowKit
set_option linter.unusedVariables false
set_option linter.unusedSimpArgs false
section
set_option maxHeartbeats 1000000
def HasRel (l : List Int) (x : Int) (w : World) (i : Value) (wr : World) : Prop := ∃ k : Nat, k ≤ l.length ∧ i = .int .i64 k ∧ (∀ j, j < k → l.getD j 0 ≠ x) ∧ w = wr
theorem has_at (l : List Int) (x : Int) : x ∈ l ↔ ∃ j, j < l.length ∧ l.getD j 0 = x := by
  rw [List.mem_iff_getElem]
  constructor
  · rintro ⟨j, hj, rfl⟩; exact ⟨j, hj, by simp [hj]⟩
  · rintro ⟨j, hj, h⟩; exact ⟨j, hj, by simpa [hj] using h⟩
theorem has_ints (A : Option Addr) (c n : Nat) (l : List Int) (x : Int) (w : World) (ha : IntsAt w (.slice A n c) l) (hn : n ≤ maxLen) :
    Calls Tryz.prog 43 #[.slice A n c, .int .i64 x] w fun e w' => e = .returned (.bool (decide (x ∈ l))) ∧ w = w' := by
  obtain rfl := ha.len
  unfold maxLen at hn
  have Ha := Lib.hid ha
  clear ha
  go_enter Tryz.func43, Tryz.ntmps43
  go_wp2_with fail
  go_loopw [5] (fun i wr => HasRel l x w i wr) (fun i _ => l.length - (intOf i).toNat)
  case atStart => exact ⟨0, by omega, rfl, fun j hj => absurd hj (by omega), rfl⟩
  case round =>
    obtain ⟨k, hk, rfl, hne, rfl⟩ := hrel
    have Hne := Lib.hid hne; clear hne
    by_cases hlt : k < l.length
    · obtain ⟨g, o, rfl, hc⟩ := Ha.out.cellAt hlt
      have hltb : (k : Int) < l.length := by omega
      generalize hy : l.getD k 0 = y at *
      have Hy := Lib.hid hy
      clear hy
      by_cases hxy : y = x
      · subst hxy
        have hf : decide (y ∈ l) = true := decide_eq_true ((has_at l y).2 ⟨k, hlt, Hy.out⟩)
        have Hf := Lib.hid hf
        clear hf
        go_wp2_with fail
        go_ret
        exact ⟨by rw [Hf.out]; rfl, rfl⟩
      · have hxb : (y == x) = false := by simp [hxy]
        go_wp2_with fail
        go_roundw
        case rel => exact ⟨k + 1, by omega, by go_num, fun j hj => by
          rcases Nat.lt_or_ge j k with h | h
          · exact Hne.out j h
          · obtain rfl : j = k := by omega
            rw [Hy.out]; exact hxy, by trivial⟩
        case measure => simp [intOf]; omega
    · have hf : decide (x ∈ l) = false := decide_eq_false fun h => by
        obtain ⟨j, hj, h⟩ := (has_at l x).1 h
        exact Hne.out j (by omega) h
      have Hf := Lib.hid hf
      clear hf
      go_wp2_with fail
      go_ret
      exact ⟨by rw [Hf.out]; rfl, rfl⟩
end
section
set_option maxHeartbeats 1000000
def SameRel (la : List Int) (lb : List Int) (w : World) (i : Value) (wr : World) : Prop := ∃ k : Nat, k ≤ la.length ∧ i = .int .i64 k ∧ (∀ j, j < k → la.getD j 0 = lb.getD j 0) ∧ ∃ m, w.drewN m = wr
theorem same_yes (la lb : List Int) (hl : la.length = lb.length) (h : ∀ j, j < la.length → la.getD j 0 = lb.getD j 0) : la = lb := by
  apply List.ext_getElem hl
  intro i h1 h2
  have := h i h1
  simpa [List.getD, h1, h2] using this
theorem sameInts_any (A B : Option Addr) (ca cb : Nat) (la lb : List Int) (w : World) (ha : IntsAt w (.slice A la.length ca) la) (hb : IntsAt w (.slice B lb.length cb) lb) (h1 : la.length ≤ maxLen) (h2 : lb.length ≤ maxLen) :
    Calls Tryz.prog 24 #[.slice A la.length ca, .slice B lb.length cb] w fun e w' => e = .returned (.bool (decide (la = lb))) ∧ ∃ m, w.drewN m = w' := by
  unfold maxLen at h1 h2
  by_cases hl : la.length = lb.length
  · have hln : ((la.length : Int) != (lb.length : Int)) = false := by simp [hl]
    have Hl := Lib.hid hl
    have hll : la.length ≤ lb.length := by omega
    clear hl
    go_enter Tryz.func24, Tryz.ntmps24
    go_wp2_with fail
    go_loopw [5] (fun i wr => SameRel la lb w i wr) (fun i _ => la.length - (intOf i).toNat)
    case atStart => exact ⟨0, by omega, rfl, fun j hj => absurd hj (by omega), 0, rfl⟩
    case round =>
      obtain ⟨k, hk, rfl, heq, m, rfl⟩ := hrel
      have Heq := Lib.hid heq; clear heq
      by_cases hlt : k < la.length
      · obtain ⟨g, o, rfl, hc⟩ := ha.cellAt hlt
        obtain ⟨g', o', rfl, hc'⟩ := hb.cellAt (show k < lb.length by omega)
        generalize hx : la.getD k 0 = x at *
        generalize hy : lb.getD k 0 = y at *
        have Hx := Lib.hid hx
        have Hy := Lib.hid hy
        clear hx hy
        by_cases hxy : x = y
        · subst hxy
          have hltb : (k : Int) < lb.length := by omega
          have hlta : (k : Int) < la.length := by omega
          go_wp2_with fail
          go_quiet (fail)
          go_wp2
          go_roundw
          case rel => exact ⟨k + 1, by omega, by go_num, fun j hj => by
            rcases Nat.lt_or_ge j k with h | h
            · exact Heq.out j h
            · obtain rfl : j = k := by omega
              rw [Hx.out, Hy.out], _, rfl⟩
          case measure => simp [intOf]; omega
        · have hne : (x != y) = true := by simp [hxy]
          have hltb : (k : Int) < lb.length := by omega
          have hlta : (k : Int) < la.length := by omega
          have hf : decide (la = lb) = false := decide_eq_false fun e => hxy (by rw [← Hx.out, ← Hy.out, e])
          have Hf := Lib.hid hf
          clear hf hxy
          go_wp2_with fail
          go_quiet (fail)
          go_wp2
          go_ret
          exact ⟨by rw [Hf.out]; rfl, _, (World.drewN_drewN _ _ _).symm⟩
      · have hf : decide (la = lb) = true := decide_eq_true (same_yes la lb Hl.out fun j hj => Heq.out j (by omega))
        have Hf := Lib.hid hf
        clear hf
        go_wp2_with fail
        go_ret
        exact ⟨by rw [Hf.out]; rfl, _, rfl⟩
  · have hln : ((la.length : Int) != (lb.length : Int)) = true := by simp; omega
    have hf : decide (la = lb) = false := decide_eq_false fun e => hl (by rw [e])
    have Hf := Lib.hid hf
    clear hl hf
    go_enter Tryz.func24, Tryz.ntmps24
    go_wp2_with fail
    go_ret
    exact ⟨by rw [Hf.out]; rfl, 0, rfl⟩
theorem sameInts_call (A B : Option Addr) (n m ca cb : Nat) (la lb : List Int) (w : World) (ha : IntsAt w (.slice A n ca) la) (hb : IntsAt w (.slice B m cb) lb) (h1 : n ≤ maxLen) (h2 : m ≤ maxLen) :
    Calls Tryz.prog 24 #[.slice A n ca, .slice B m cb] w fun e w' => e = .returned (.bool (decide (la = lb))) ∧ ∃ m, w.drewN m = w' := by
  obtain rfl := ha.len
  obtain rfl := hb.len
  exact sameInts_any A B ca cb la lb w ha hb h1 h2
end
end Go.Proofs.YtodephhlhdbeoaaGreat
