/- The document's net: New. -/
import Derived.Test.YtlagccfllnhgbaaRefA
namespace Go.Proofs.Ytlagccfllnhgbaa
open Go.RowKit
set_option linter.unusedVariables false
set_option linter.unusedSimpArgs false
def RnRel (ways : Int) (nb : Nat) (w : World) (i : Value) (wr : World) : Prop :=
  ∃ (k : Nat) (hv : Value), k ≤ newN ways ∧ i = .int .i64 k ∧ Box wr nb 52 #[hv] ∧ Row 22 wr hv (List.replicate k (.slice none 0 0)) ∧ (∀ x, ownB hv x → nb < x) ∧ Only Non w wr
section
set_option maxHeartbeats 2000000
theorem rnew_any (ways : Int) (base : Nat) (w : World) (hbase : base ≤ w.heap.size) : Calls Try.prog 23 #[.int .i64 ways] w (NewPost 52 base (newN ways) w) := by
  have hst : RnRel ways w.heap.size w (.int .i64 0) (w.alloc (.cells #[.slice none 0 0] 52)) :=
    ⟨0, _, Nat.zero_le _, rfl, Box.fresh _ _ _, Row.nil_ _ _, fun x hx => (ownB_none hx).elim, (Only.refl _ _).alloc _⟩
  have Hst := Lib.hid hst; clear hst
  go_enter Try.func23, Try.ntmps23
  go_wp2_with fail
  go_loopw [4] (fun i wr => RnRel ways w.heap.size w i wr) (fun i _ => 32 - (intOf i).toNat)
  case atStart => exact Hst.out
  case round =>
    clear Hst
    obtain ⟨k, hv, hk, rfl, hb, hr, hown, ho⟩ := hrel
    have hk32 := Nat.le_trans hk (newN_le ways)
    by_cases hlt : k < newN ways
    · have c1 : (k : Int) < ways := by unfold newN at hlt; omega
      have c2 : (k : Int) < 32 := by unfold newN at hlt; omega
      obtain ⟨A, cp, rfl, hl, hm⟩ := hr.shape
      rw [List.length_replicate] at *
      have hcell : wr.cell? ⟨w.heap.size, 0, none⟩ = some (.slice A k cp) := hb.cellAt rfl
      have hal : Only Non wr (wr.alloc (.cells #[.slice none 0 0] 22)) := (Only.refl _ _).alloc _
      have Hr2 := Lib.hid (hr.only hal fun _ _ => id)
      have Hb2 := Lib.hid (hb.alloc (.cells #[.slice none 0 0] 22))
      have Hal := Lib.hid hal
      have Ho := Lib.hid ho
      have Hown := Lib.hid hown
      have Hsz := Lib.hid (show w.heap.size < wr.heap.size from hb.lt)
      have Q1 := Lib.hid (show (List.replicate k (Value.slice none 0 0)).length + [Value.slice none 0 0].length ≤ maxLen by simp [maxLen]; omega)
      have Q2 := Lib.hid (show ((List.replicate k (Value.slice none 0 0)).length + [Value.slice none 0 0].length) * 24 ≤ 140737488355328 by simp; omega)
      have Hrep := Lib.hid (show List.replicate k (Value.slice none 0 0) ++ [Value.slice none 0 0] = List.replicate (k + 1) (.slice none 0 0) from by rw [List.replicate_succ'])
      generalize List.replicate k (Value.slice none 0 0) = rk at *
      clear hr hb hal ho hown hl hm
      go_wp2_with (at_builtin; refine wpList_append_row _ rfl (.tmp 20) (.tmp 21) 50 22 rfl framesInfo rfl Try.underlying50 (.slice A k cp) rk rfl Hr2.out (some ⟨wr.heap.size, 0, none⟩) 1 1 [.slice none 0 0] rfl rfl (one_src _ _ _) (by simp [Value.oneCell']) Q1.out Q2.out ?_
                   intro v1 w1 hrow1 hgrow1 hown1 _
                   have hb1 := hgrow1.box Hb2.out (fun h => Nat.lt_irrefl _ (Hown.out _ h))
                   have n0 : w1.cell? ⟨w.heap.size, 0, none⟩ = some (.slice A k cp) := hb1.cellAt rfl
                   have nf : w1.frozen? ⟨w.heap.size, 0, none⟩ = false := hb1.free 0
                   have Hrow1 := Lib.hid hrow1
                   have Hown1 := Lib.hid hown1
                   have Hgrow1 := Lib.hid hgrow1
                   have Hb1 := Lib.hid hb1
                   obtain ⟨B1, d1, hv1, _⟩ := hrow1.shape
                   clear hrow1 hgrow1 hown1 hb1
                   generalize (rk ++ [Value.slice none 0 0]).length = n1 at *
                   subst hv1)
      have hb3 := Hb1.out.store 0 (.slice B1 n1 d1)
      have ho3 : Only (Just w.heap.size) w1 (w1.setCell ⟨w.heap.size, 0, none⟩ (.slice B1 n1 d1)) := Only.setCell (S := Just w.heap.size) (p := ⟨w.heap.size, 0, none⟩) (Only.refl _ _) (.inl rfl) _
      have hown3 : ∀ x, ownB (.slice B1 n1 d1) x → w.heap.size < x := fun x hx => (Hown1.out x hx).elim (Hown.out x) fun h => Nat.lt_of_lt_of_le Hsz.out (Nat.le_trans Hal.out.size h)
      refine ⟨⟨k + 1, _, by omega, by go_num, hb3, ?_, hown3, ?_⟩, by simp [intOf]; omega⟩
      · rw [← Hrep.out]
        exact Hrow1.out.only ho3 fun x hx e => by have e' : x = w.heap.size := e; have := hown3 x hx; omega
      · exact ((Ho.out.trans Hal.out).trans' Hgrow1.out fun b hb => .inr (Nat.le_of_lt (Hown.out b hb))).trans' ho3 fun b hb => .inr (by have e' : b = w.heap.size := hb; omega)
    · have hkn : k = newN ways := by omega
      have c1 : ¬ ((k : Int) < ways ∧ (k : Int) < 32) := by unfold newN at hkn; omega
      have hnet : NewPost 52 base (newN ways) w (.returned (.pointer (some ⟨w.heap.size, 0, none⟩))) wr := by
        rw [hkn] at hr
        refine ⟨w.heap.size, _, rfl, net_fresh 52 (by decide) wr (newN ways) w.heap.size base hv (newN_le ways) hbase hb hr (fun x hx => by have := hown x hx; omega), ?_, ho⟩
        rintro x (rfl | hx | ⟨j, hj, hx⟩)
        · exact Nat.le_refl _
        · exact Nat.le_of_lt (hown x hx)
        · rw [List.length_replicate] at hj
          rw [show (List.replicate (newN ways) (Value.slice none 0 0)).getD j undef = .slice none 0 0 from by simp [hj]] at hx
          exact (ownB_none hx).elim
      have Hnet := Lib.hid hnet
      clear hnet hkn hlt hr hb hown ho hk
      by_cases c2 : (k : Int) < ways
      · have c3 : ¬ (k : Int) < 32 := fun h => c1 ⟨c2, h⟩
        clear c1
        go_wp2_with fail
        go_ret
        exact Hnet.out
      · clear c1
        go_wp2_with fail
        go_ret
        exact Hnet.out
end
end Go.Proofs.Ytlagccfllnhgbaa
