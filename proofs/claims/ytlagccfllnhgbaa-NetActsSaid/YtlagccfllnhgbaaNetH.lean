/- New, and whether the net's example holds. -/
import Derived.Test.YtlagccfllnhgbaaNetG
namespace Go.Proofs.Ytlagccfllnhgbaa
open Go.RowKit
set_option linter.unusedVariables false
set_option linter.unusedSimpArgs false

def newN (ways : Int) : Nat := (max 0 (min ways 32)).toNat
theorem newN_le (ways : Int) : newN ways ≤ 32 := by unfold newN; omega
theorem made_row (w : World) (e : TypeId) (n : Nat) (hn : n ≤ 32) : Row e (w.alloc (.cells (madeCells #[.slice none 0 0] n) e)) (.slice (some ⟨w.heap.size, 0, none⟩) n n) (List.replicate n (.slice none 0 0)) := by
  refine .inr ⟨w.heap.size, n, _, by rw [List.length_replicate], Box.fresh w e _, by simp, by simp [madeCells], by unfold maxLen; omega, ?_⟩
  rw [List.length_replicate]
  apply List.ext_getElem?
  intro i
  rw [List.getElem?_take]
  split
  · rename_i hi
    simp [madeCells, hi, Nat.mod_one]
  · rename_i hi
    rw [List.getElem?_eq_none (by simp; omega)]
theorem getD_replicate {α : Type} (n i : Nat) (x : α) : (List.replicate n x).getD i x = x := by
  simp only [List.getD, List.getElem?_replicate]; split <;> rfl
theorem net_fresh (T : TypeId) (hT : T ≠ 5 ∧ T ≠ 26 ∧ T ≠ 22) (w : World) (n nb base : Nat) (hv : Value) (hn : n ≤ 32) (hbase : base ≤ nb) (hb : Box w nb T #[hv]) (hr : Row 22 w hv (List.replicate n (.slice none 0 0))) (hown : ∀ k, ownB hv k → base ≤ k) :
    NetIs T w base nb (footOf nb hv (List.replicate n (.slice none 0 0))) (fun _ => False) (List.replicate n []) := by
  have h0 : ∀ j, j < n → (List.replicate n (Value.slice none 0 0)).getD j undef = .slice none 0 0 := fun j hj => by simp [hj]
  refine ⟨hv, List.replicate n (.slice none 0 0), List.replicate n [], ?_⟩
  refine { box := hb, top := hr, nrows := by simp, nc := by simp, c32 := by simpa using hn, row := ?_, clen := ?_, c400 := ?_, fr := ?_, dist := ?_, foot := fun k => Iff.rfl, hi := ?_, hbox := fun k hk => hk.elim, tT := hT }
  · intro j hj
    rw [List.length_replicate] at hj
    rw [h0 j hj, getD_replicate]
    exact Row.nil_ _ _
  · intro j hj
    simp only [Cont.row, getD_replicate]; rfl
  · intro j hj
    simp only [Cont.row, getD_replicate]
    exact Nat.zero_le _
  · intro j i hj hi
    simp only [Cont.row, getD_replicate, List.length_nil] at hi
    omega
  · intro i j k hij hj hk
    rw [List.length_replicate] at hj
    rw [h0 i (by omega)] at hk
    exact (ownB_none hk).elim
  · rintro k (rfl | hk | ⟨j, hj, hk⟩)
    · exact hbase
    · exact hown k hk
    · rw [List.length_replicate] at hj
      rw [h0 j hj] at hk
      exact (ownB_none hk).elim
def NewPost (T : TypeId) (base : Nat) (n : Nat) (w : World) (e : Ending) (w' : World) : Prop :=
  ∃ nb F, e = .returned (.pointer (some ⟨nb, 0, none⟩)) ∧ NetIs T w' base nb F (fun _ => False) (List.replicate n []) ∧ (∀ k, F k → w.heap.size ≤ k) ∧ Only Non w w'
section
set_option maxHeartbeats 1000000
theorem nnew_core (ways : Int) (n : Nat) (hn : (n : Int) = max 0 (min ways 32)) (w : World) :
    Calls Try.prog 13 #[.int .i64 ways] w fun e w' => e = .returned (.pointer (some ⟨w.heap.size + 1, 0, none⟩)) ∧
      (w.alloc (.cells (madeCells #[.slice none 0 0] n) 22)).alloc (.cells #[.slice (some ⟨w.heap.size, 0, none⟩) n n] 75) = w' := by
  have hmk := fun w => run_make_row' (P := Try.prog) 50 22 (.slice none 0 0) 24 Try.underlying50 framesInfo rfl .i64 .i64 n (by omega) (by omega) w
  have Hmk := Lib.hid hmk
  clear hmk
  rcases (show ways ≤ 0 ∨ (0 < ways ∧ ways ≤ 32) ∨ 32 < ways by omega) with h | h | h
  · have hmk := fun w => Hmk.out w
    rw [show (n : Int) = 0 by omega] at hmk
    clear hn
    go_enter Try.func13, Try.ntmps13
    go_wp2
    go_ret
    exact ⟨rfl, rfl⟩
  · have hmk := fun w => Hmk.out w
    rw [show (n : Int) = ways by omega] at hmk
    clear hn
    go_enter Try.func13, Try.ntmps13
    go_wp2
    go_ret
    exact ⟨rfl, rfl⟩
  · have hmk := fun w => Hmk.out w
    rw [show (n : Int) = 32 by omega] at hmk
    clear hn
    go_enter Try.func13, Try.ntmps13
    go_wp2
    go_ret
    exact ⟨rfl, rfl⟩
theorem nnew_any (ways : Int) (base : Nat) (w : World) (hbase : base ≤ w.heap.size) : Calls Try.prog 13 #[.int .i64 ways] w (NewPost 75 base (newN ways) w) := by
  refine (nnew_core ways (newN ways) (by unfold newN; omega) w).mono ?_
  rintro e w' ⟨rfl, rfl⟩
  have hr := made_row w 22 (newN ways) (newN_le ways)
  have hb := Box.fresh (w.alloc (.cells (madeCells #[.slice none 0 0] (newN ways)) 22)) 75 #[.slice (some ⟨w.heap.size, 0, none⟩) (newN ways) (newN ways)]
  rw [World.size_alloc] at hb
  have hown : ∀ k, ownB (.slice (some ⟨w.heap.size, 0, none⟩) (newN ways) (newN ways)) k → w.heap.size ≤ k := fun k hk => by rw [ownB_slice] at hk; omega
  refine ⟨w.heap.size + 1, _, rfl, net_fresh 75 (by decide) _ (newN ways) _ base _ (newN_le ways) (by omega) hb (hr.only ((Only.refl Non _).alloc _) fun _ _ => id) (fun k hk => by have := hown k hk; omega), ?_, ((Only.refl _ _).alloc _).alloc _⟩
  rintro k (rfl | hk | ⟨j, hj, hk⟩)
  · omega
  · exact hown k hk
  · rw [List.length_replicate] at hj
    rw [show (List.replicate (newN ways) (Value.slice none 0 0)).getD j undef = .slice none 0 0 from by simp [hj]] at hk
    exact (ownB_none hk).elim
end
end Go.Proofs.Ytlagccfllnhgbaa
