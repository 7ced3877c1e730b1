/- gradineref25.SameActs at two that are the same acts; gradineref21.Long. -/
import Derived.Test.YtaofjnpmnaohcaaSameA
namespace Go.Proofs.Ytaofjnpmnaohcaa
open Go.RowKit
set_option linter.unusedVariables false
set_option linter.unusedSimpArgs false
def LgRel (n : Nat) (W : World) (i : Value) (wr : World) : Prop := ∃ k : Nat, k ≤ n ∧ i = .int .i64 k ∧ wr = W
def LongOut (l : List ActR) (most : Nat) (w : World) (e : Ending) (w' : World) : Prop := ∃ b : Bool, e = .returned (.bool b) ∧ (b = false → l.length ≤ most) ∧ Only Non w w'
section
set_option maxHeartbeats 4000000
set_option maxRecDepth 100000
theorem asame_any (l : List ActR) (A B : Option Addr) (n m ca cb : Nat) (w : World) (ha : ActsAt w A n ca l) (hb : ActsAt w B m cb l) :
    Calls Try.prog 12 #[.slice A n ca, .slice B m cb] w fun e w' => e = .returned (.bool true) ∧ Only Non w w' := by
  have h1 := ha.len
  have h2 := hb.len
  subst h1
  subst h2
  have hc1 := ha.cap
  have hc2 := hb.cap
  have hm1 := ha.max
  have hm2 := hb.max
  unfold maxLen at hm1 hm2
  have HA := Lib.hid ha
  have HB := Lib.hid hb
  clear ha hb
  go_enter Try.func12, Try.ntmps12
  go_wp2_with fail
  go_loopw [5] (fun i wr => SaRel l.length w i wr) (fun i _ => l.length - (intOf i).toNat)
  case atStart => exact ⟨0, 0, Nat.zero_le _, rfl, rfl⟩
  case round =>
    obtain ⟨k, q, hk, rfl, hq⟩ := hrel
    have hoq : Only Non w wr := by rw [← hq]; exact (Only.refl Non w).drewN q
    have HA2 := Lib.hid (HA.out.keep hoq)
    have HB2 := Lib.hid (HB.out.keep hoq)
    have Hoq := Lib.hid hoq
    have Hq := Lib.hid hq
    clear hq hoq
    by_cases hlt : k < l.length
    · obtain ⟨g, o, dA, dc, rfl, hg, a0, a1, a2, a3, a4, a5⟩ := HA2.out.at_ k hlt
      obtain ⟨g', o', dB, dd, rfl, hg', b0, b1, b2, b3, b4, b5⟩ := HB2.out.at_ k hlt
      generalize l.getD k default = hd at *
      have HS := Lib.hid (show ∀ n, Calls Try.prog 9 #[.slice dA hd.data.length dc, .slice dB hd.data.length dd] (wr.drewN n) fun e w' => e = .returned (.bool true) ∧ ∃ k, w' = (wr.drewN n).drewN k from fun n => by
        have h := same_any _ _ _ _ (wr.drewN n) (a5.only ((Only.refl Non wr).drewN n) fun _ _ => id) (b5.only ((Only.refl Non wr).drewN n) fun _ _ => id)
        rw [decide_eq_true (rfl : hd.data = hd.data)] at h
        exact h.mono fun e w' h => ⟨h.1, h.2.imp fun _ h => h.symm⟩)
      have hltb : (k : Int) < l.length := by omega
      have Hlt := Lib.hid hlt
      clear hlt a5 b5
      go_upto_region 6 with fail
      go_quiet ((go_at_call 9; exact quiet_d (HS.out _)))
      go_wp2
      exact ⟨⟨k + 1, _, Hlt.out, by simp, by rw [← Hq.out, World.drewN_drewN]⟩, by have := Hlt.out; simp [intOf]; omega⟩
    · obtain rfl : k = l.length := by omega
      go_wp2_with fail
      go_ret
      exact ⟨rfl, Hoq.out⟩
theorem long_any (c : CfgA) (l : List ActR) (A B : Option Addr) (n m ca cb most : Nat) (w : World) (ha : HintsAt w A n ca c.h) (hb : ActsAt w B m cb l) :
    Calls Try.prog 6 #[.agg (cfgCells c (.slice A n ca)), .slice B m cb, .int .i64 most] w (LongOut l most w) := by
  have h1 := ha.len
  have h2 := hb.len
  subst h1
  subst h2
  have hc1 := ha.cap
  have hc2 := hb.cap
  have hm1 := ha.max
  have hm2 := hb.max
  unfold maxLen at hm1 hm2
  have HO := Lib.hid (show Only Non w (w.alloc (.cells (cfgCells c (.slice A c.h.length ca)) 25)) from (Only.refl Non w).alloc _)
  have HX := Lib.hid (Box.fresh w 25 (cfgCells c (.slice A c.h.length ca)))
  have HB := Lib.hid (hb.keep HO.out)
  clear ha hb
  go_enter Try.func6, Try.ntmps6
  go_upto_region 1 with fail
  change Code.wp _ _ _ _ (w.alloc (.cells (cfgCells c (.slice A c.h.length ca)) 25))
  generalize w.alloc (.cells (cfgCells c (.slice A c.h.length ca)) 25) = W at *
  generalize w.heap.size = xb at *
  have x16 : W.cell? ⟨xb, 16, none⟩ = some (.slice A c.h.length ca) := HX.out.cellAt (cfgCells_hs c _)
  by_cases h20 : c.h.length ≤ 20
  rotate_left
  · have h20i : (20 : Int) < c.h.length := by omega
    go_wp2_with fail
    go_ret
    exact ⟨true, rfl, fun h => Bool.noConfusion h, HO.out⟩
  have h20i : ¬ (20 : Int) < c.h.length := by omega
  by_cases hmo : l.length ≤ most
  rotate_left
  · have hmi : (most : Int) < l.length := by omega
    go_wp2_with fail
    go_ret
    exact ⟨true, rfl, fun h => Bool.noConfusion h, HO.out⟩
  have hmi : ¬ (most : Int) < l.length := by omega
  go_wp2_with fail
  clear x16
  go_loopw [7] (fun i wr => LgRel l.length W i wr) (fun i _ => l.length - (intOf i).toNat)
  case atStart => exact ⟨0, Nat.zero_le _, rfl, rfl⟩
  case round =>
    obtain ⟨k, hk, rfl, rfl⟩ := hrel
    by_cases hlt : k < l.length
    · obtain ⟨g, o, dA, dc, rfl, hg, a0, a1, a2, a3, a4, a5⟩ := HB.out.at_ k hlt
      have hd1 := a5.len.2
      generalize l.getD k default = hd at *
      have hltb : (k : Int) < l.length := by omega
      have Hlt := Lib.hid hlt
      clear hlt a5
      by_cases h100 : (100 : Int) < hd.data.length
      · go_wp2_with fail
        go_ret
        exact ⟨true, rfl, fun h => Bool.noConfusion h, HO.out⟩
      · go_wp2_with fail
        exact ⟨⟨k + 1, Hlt.out, by simp, rfl⟩, by have := Hlt.out; simp [intOf]; omega⟩
    · obtain rfl : k = l.length := by omega
      go_wp2_with fail
      go_ret
      exact ⟨false, rfl, fun _ => hmo, HO.out⟩
end
end Go.Proofs.Ytaofjnpmnaohcaa
