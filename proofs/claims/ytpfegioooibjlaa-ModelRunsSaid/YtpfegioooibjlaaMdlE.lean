/- Tier, Run. -/
import Derived.Test.YtpfegioooibjlaaMdlD
namespace Go.Proofs.Ytpfegioooibjlaa
open Go.RowKit
set_option linter.unusedVariables false
set_option linter.unusedSimpArgs false
def capN (c0 c1 c2 : Nat) (k : Nat) : Nat := [c0, c1, c2].getD k 0
def preN (c0 c1 c2 : Nat) : Nat → Nat
  | 0 => 0
  | k + 1 => preN c0 c1 c2 k + capN c0 c1 c2 k
def tierL (c0 c1 c2 t : Nat) (l : List Int) : List Int := (l.drop (preN c0 c1 c2 t)).take (capN c0 c1 c2 t)
def TrRel (c0 c1 c2 t : Nat) (w : World) (fr i : Value) (wr : World) : Prop := ∃ k : Nat, k ≤ t ∧ i = .int .i64 k ∧ fr = .int .i64 (preN c0 c1 c2 k) ∧ w = wr
theorem preN_le (c0 c1 c2 k : Nat) (h : c0 ≤ 16 ∧ c1 ≤ 16 ∧ c2 ≤ 16) : preN c0 c1 c2 k ≤ k * 16 := by
  induction k with
  | zero => exact Nat.le_refl _
  | succ k ih =>
    have : capN c0 c1 c2 k ≤ 16 := by
      unfold capN
      match k with
      | 0 => exact h.1
      | 1 => exact h.2.1
      | 2 => exact h.2.2
      | _ + 3 => simp
    rw [preN]; omega
theorem clone_cut {w : World} {A : Option Addr} {n c pk ck : Nat} {l : List Int} (hrow : Row 3 w (.slice A n c) (ints l)) (hn : l.length = n) (hl : n ≤ 48) (A' : Option Addr) (len cp : Nat) (hlen : len = min ck (n - pk)) (hA : 0 < len → A' = A.map fun x => x.add pk) :
    Calls Try.prog 22 #[.slice A' len cp] w (ClonePost ((l.drop pk).take ck) w) := by
  have htl : ((l.drop pk).take ck).length = len := by rw [List.length_take, List.length_drop, hn, hlen]
  have hs : Src w A' (ints ((l.drop pk).take ck)) := by
    by_cases h0 : 0 < len
    · intro j u hj
      have hjl : j < len := by rw [← htl, ← ints_len]; exact (List.getElem?_eq_some_iff.1 hj).1
      have hu : (ints l)[pk + j]? = some u := by
        rw [← hj]
        simp only [ints, List.map_take, List.map_drop]
        rw [List.getElem?_take, if_pos (by omega), List.getElem?_drop]
      obtain ⟨g, o, rfl, hc⟩ := hrow.srcOf.2 _ u hu
      refine ⟨g, o + pk, by rw [hA h0]; simp [Addr.add], by rw [Nat.add_assoc]; exact hc⟩
    · have : (l.drop pk).take ck = [] := List.eq_nil_of_length_eq_zero (by omega)
      rw [this]
      exact Src.nil_ _ _
  have := clone_ints A' cp ((l.drop pk).take ck) w hs (by omega)
  rw [htl] at this
  exact this
section
set_option maxHeartbeats 2000000
set_option maxRecDepth 100000
theorem slice_three (lb t : Nat) (ht : t < 3) (w : World) : (Instr.sliceAt 22 (.pointer (some ⟨lb, 0, none⟩)) none (some (.int .i64 t)) none).run Try.prog w = .ok (.slice (some ⟨lb, 0, none⟩) t 3) w := by
  have ha : Try.prog.arrayLen 22 = 3 := by kernel_rfl
  have he : Try.prog.elem 22 = 3 := by kernel_rfl
  rw [run_sliceAt_array_h w 22 ⟨lb, 0, none⟩ (by rw [ha, he]; exact Try.underlying22) .i64 t (by omega) (by rw [ha]; omega), ha, he, Try.sizeOf3]
  simp [slicedAt, Addr.add]
theorem tier_nil (i : Int) (w : World) : Calls Try.prog 16 #[.pointer none, .int .i64 i] w fun e w' => e = .returned (.slice none 0 0) ∧ w = w' := by
  go_enter Try.func16, Try.ntmps16
  go_wp2_with fail
  go_ret
  exact ⟨rfl, rfl⟩
theorem tier_out (lb : Nat) (i : Int) (w : World) (h : i < 1 ∨ 3 < i) : Calls Try.prog 16 #[.pointer (some ⟨lb, 0, none⟩), .int .i64 i] w fun e w' => e = .returned (.slice none 0 0) ∧ w = w' := by
  by_cases h0 : i < 1
  · go_enter Try.func16, Try.ntmps16
    go_wp2_with fail
    go_ret
    exact ⟨rfl, rfl⟩
  · have h1 : 3 < i := by omega
    clear h
    go_enter Try.func16, Try.ntmps16
    go_wp2_with fail
    go_ret
    exact ⟨rfl, rfl⟩
theorem tier_any (base lb : Nat) (F : Nat → Prop) (c0 c1 c2 : Nat) (l : List Int) (m t : Nat) (w : World) (h : MdlIs w base lb F c0 c1 c2 l m) (ht : t < 3) :
    Calls Try.prog 16 #[.pointer (some ⟨lb, 0, none⟩), .int .i64 (t + 1 : Nat)] w (ClonePost (tierL c0 c1 c2 t l) w) := by
  obtain ⟨v, hA⟩ := h
  have hl := hA.l48
  have hcap := hA.caps
  have hcell : ∀ k, k < 3 → w.cell? ⟨lb, k, none⟩ = some (.int .i64 (capN c0 c1 c2 k)) := fun k hk => by
    rcases (show k = 0 ∨ k = 1 ∨ k = 2 by omega) with rfl | rfl | rfl <;> exact hA.box.cellAt rfl
  have hcapk : ∀ k, capN c0 c1 c2 k ≤ 16 := fun k => by
    unfold capN
    match k with
    | 0 => exact hcap.2.1
    | 1 => exact hcap.2.2.2.1
    | 2 => exact hcap.2.2.2.2.2
    | _ + 3 => simp
  have hpre : ∀ k, k ≤ 3 → preN c0 c1 c2 k ≤ 48 := fun k hk => Nat.le_trans (preN_le c0 c1 c2 k ⟨hcap.2.1, hcap.2.2.2.1, hcap.2.2.2.2.2⟩) (by omega)
  obtain ⟨A, c, rfl, hc, hm⟩ := hA.row.shape
  have b3 : w.cell? ⟨lb, 3, none⟩ = some (.slice A l.length c) := by have := hA.box.cellAt (i := 3) rfl; rw [ints_len] at this; exact this
  have Hrow := Lib.hid hA.row
  have Hcell := Lib.hid hcell
  have Hcapk := Lib.hid hcapk
  have Hpre := Lib.hid hpre
  rw [ints_len] at hc
  generalize hn : l.length = n at *
  have Hn := Lib.hid hn
  have e1 : ((t + 1 : Nat) : Int) = (t : Int) + 1 := by simp
  rw [e1]
  have e2 : (t : Int) + 1 - 1 = t := by omega
  have hs3 := slice_three lb t ht
  unfold maxLen at hm
  clear hcell hcapk hpre hA hcap hn
  go_enter Try.func16, Try.ntmps16
  go_wp2_with fail
  go_loopw [5, 26] (fun fr i wr => TrRel c0 c1 c2 t w fr i wr) (fun _ i _ => t - (intOf i).toNat)
  case atStart => exact ⟨0, Nat.zero_le _, rfl, rfl, rfl⟩
  case round =>
    obtain ⟨k, hk, rfl, rfl, rfl⟩ := hrel
    by_cases hlt : k < t
    · have hc := Hcell.out k (by omega)
      have h16 := Hcapk.out k
      have h48 := Hpre.out k (by omega)
      have Hsu := Lib.hid (show preN c0 c1 c2 (k + 1) = preN c0 c1 c2 k + capN c0 c1 c2 k from rfl)
      generalize preN c0 c1 c2 k = pk at *
      generalize capN c0 c1 c2 k = ck at *
      go_wp2_with fail
      go_roundw
      case rel => exact ⟨k + 1, by omega, by go_num, by rw [Hsu.out]; go_num, by trivial⟩
      case measure => simp [intOf]; omega
    · obtain rfl : k = t := by omega
      have hc := Hcell.out k ht
      have h16 := Hcapk.out k
      have h48 := Hpre.out k (by omega)
      rw [ints_len, Hn.out] at Hrow
      have HT := Lib.hid (show tierL c0 c1 c2 k l = (l.drop (preN c0 c1 c2 k)).take (capN c0 c1 c2 k) from rfl)
      generalize preN c0 c1 c2 k = pk at *
      generalize capN c0 c1 c2 k = ck at *
      go_wp2_with fail
      go_region
      go_wp2_with fail
      all_goals
        refine (clone_cut (pk := pk) (ck := ck) (Hrow.out.only ((Only.refl Non w).drew) fun _ _ => id) Hn.out hl _ _ _ (by omega) (fun h => by first | (rw [show (min (pk : Int) n).toNat = pk by omega]) | (exfalso; omega))).mono ?_
        rintro e w' ⟨v', rfl, h1, h2, h3⟩
        have H := Lib.hid (show ClonePost (tierL c0 c1 c2 k l) w (.returned v') w' from ⟨v', rfl, by rw [HT.out]; exact h1, h2, ((Only.refl Non w).drew).trans h3⟩)
        clear h1 h2 h3
        go_wp2_with fail
        go_ret
        exact H.out
end
end Go.Proofs.Ytpfegioooibjlaa
