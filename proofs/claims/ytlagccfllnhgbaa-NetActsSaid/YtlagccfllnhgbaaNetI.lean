/- The net's example. -/
import Derived.Test.YtlagccfllnhgbaaNetH
namespace Go.Proofs.Ytlagccfllnhgbaa
open Go.RowKit
set_option linter.unusedVariables false
set_option linter.unusedSimpArgs false

theorem byt_one (w : World) (x : Int) : Byt (w.alloc (.cells #[.int .u8 x] 5)) (.slice (some ⟨w.heap.size, 0, none⟩) 1 1) [x] :=
  ⟨_, 1, rfl, Nat.le_refl _, by simp, one_src w (.int .u8 x) 5⟩
theorem frs_one {w : World} {F : Nat → Prop} (hF : ∀ k, F k → k < w.heap.size) {v : Value} {l : List Int} (hb : Byt w v l) (hv : ∀ k, ownB v k → ¬ F k) :
    Frs (w.alloc (.cells #[v] 26)) F (some ⟨w.heap.size, 0, none⟩) [v] [l] where
  len := rfl
  src := one_src w v 26
  far := by rintro _ g o e _ hf; injection e with e; injection e with e; subst e; exact Nat.lt_irrefl _ (hF _ hf)
  byt := by
    intro i hi
    obtain rfl : i = 0 := by simpa using hi
    exact hb.only ((Only.refl Non _).alloc _) fun _ _ => id
  bfar := by
    intro i hi
    obtain rfl : i = 0 := by simpa using hi
    exact fun _ k hk _ => hv k hk
theorem two_src (w : World) (u v : Value) (t : TypeId) : Src (w.alloc (.cells #[u, v] t)) (some ⟨w.heap.size, 0, none⟩) [u, v] := by
  have hb := Box.fresh w t #[u, v]
  intro j x hj
  match j, hj with
  | 0, hj => simp at hj; subst hj; exact ⟨_, _, rfl, hb.cellAt rfl⟩
  | 1, hj => simp at hj; subst hj; exact ⟨_, _, rfl, hb.cellAt rfl⟩
theorem frs_two {w : World} {F : Nat → Prop} (hF : ∀ k, F k → k < w.heap.size) :
    Frs (((w.alloc (.cells #[.int .u8 1] 5)).alloc (.cells #[.int .u8 2] 5)).alloc (.cells #[.slice (some ⟨w.heap.size, 0, none⟩) 1 1, .slice (some ⟨w.heap.size + 1, 0, none⟩) 1 1] 26)) F (some ⟨w.heap.size + 2, 0, none⟩)
      [.slice (some ⟨w.heap.size, 0, none⟩) 1 1, .slice (some ⟨w.heap.size + 1, 0, none⟩) 1 1] [[1], [2]] where
  len := rfl
  src := by
    have h := two_src ((w.alloc (.cells #[.int .u8 1] 5)).alloc (.cells #[.int .u8 2] 5)) (.slice (some ⟨w.heap.size, 0, none⟩) 1 1) (.slice (some ⟨w.heap.size + 1, 0, none⟩) 1 1) 26
    rw [World.size_alloc, World.size_alloc] at h
    exact h
  far := by rintro _ g o e _ hf; injection e with e; injection e with e; subst e; have := hF _ hf; omega
  byt := by
    intro i hi
    match i, hi with
    | 0, _ => exact (byt_one w 1).only (((Only.refl Non _).alloc _).alloc _) fun _ _ => id
    | 1, _ =>
      have h := byt_one (w.alloc (.cells #[.int .u8 1] 5)) 2
      rw [World.size_alloc] at h
      exact h.only ((Only.refl Non _).alloc _) fun _ _ => id
  bfar := by
    intro i hi _ k hk _ hf
    have := hF _ hf
    match i, hi with
    | 0, _ => rw [show List.getD [Value.slice (some ⟨w.heap.size, 0, none⟩) 1 1, .slice (some ⟨w.heap.size + 1, 0, none⟩) 1 1] 0 undef = .slice (some ⟨w.heap.size, 0, none⟩) 1 1 from rfl, ownB_slice] at hk; omega
    | 1, _ => rw [show List.getD [Value.slice (some ⟨w.heap.size, 0, none⟩) 1 1, .slice (some ⟨w.heap.size + 1, 0, none⟩) 1 1] 1 undef = .slice (some ⟨w.heap.size + 1, 0, none⟩) 1 1 from rfl, ownB_slice] at hk; omega
theorem NetIs.flt {T : TypeId} {w : World} {base nb : Nat} {F H : Nat → Prop} {c : Cont} (h : NetIs T w base nb F H c) {k : Nat} (hk : F k) : k < w.heap.size := by
  obtain ⟨hv, vs, rows, h⟩ := h; exact h.flt hk
def Ret (v : Value) (S : Nat → Prop) (w : World) (e : Ending) (w' : World) : Prop := e = .returned v ∧ Only S w w'
section
set_option maxHeartbeats 2000000
theorem nwakes (w : World) : Calls Try.prog 12 #[] w (Ret (.bool true) Non w) := by
  have HN := Lib.hid (nnew_any 1 w.heap.size w (Nat.le_refl _))
  go_enter Try.func12, Try.ntmps12
  go_wp2_with (go_at_call 13; refine HN.out.mono ?_; rintro e w1 ⟨nb, F, rfl, hn, hF, ho⟩)
  have hsz := ho.size
  have hFl : ∀ k, F k → k < w1.heap.size := fun k hk => hn.flt hk
  have hn2 := hn.keep ((((Only.refl Non w1).alloc (.cells #[.int .u8 1] 5)).alloc (.cells #[.int .u8 2] 5)).alloc (.cells #[.slice (some ⟨w1.heap.size, 0, none⟩) 1 1, .slice (some ⟨w1.heap.size + 1, 0, none⟩) 1 1] 26))
  have hS := nsend_yes w.heap.size nb F (fun _ => False) _ 0 _ 2 _ _ _ hn2 (by simp only [World.size_alloc]; omega) (frs_two hFl) (by decide) (by decide) (by decide) (by decide) (by decide)
  have HS := Lib.hid hS; clear hS
  go_wp2_with fail
  refine HS.out.mono ?_
  rintro e w2 ⟨rfl, F1, H1, hn3, hF1, hH1, ho1⟩
  have hT := ntake_yes w.heap.size nb F1 H1 _ 0 1 w2 hn3 (by have := ho1.size; simp only [World.size_alloc] at this; omega) (by decide)
  have HT := Lib.hid hT; clear hT
  go_wp2_with fail
  refine HT.out.mono ?_
  rintro e w3 ⟨v, rfl, hv, hvk, F2, H2, hn4, hF2, hH2, ho2⟩
  have HM := Lib.hid (same_any v _ _ _ _ (hv.only ((Only.refl Non w3).alloc (.cells #[.int .u8 2] 5)) fun _ _ => id) (byt_one w3 2))
  go_wp2_with fail
  refine HM.out.mono ?_
  rintro e w4 ⟨rfl, m, rfl⟩
  go_wp2_with fail
  go_ret
  refine ⟨rfl, ?_⟩
  have k1 : Only Non w w1 := ho
  have k2 : Only Non w w2 := k1.trans' ((((Only.refl F w1).alloc _).alloc _).alloc _ |>.trans ho1) fun b hb => .inr (hF b hb)
  have k3 : Only Non w w3 := k2.trans' ho2 fun b hb => .inr (by
    rcases hF1 b hb with h | h
    · exact hF b h
    · simp only [World.size_alloc] at h; omega)
  exact (k3.alloc _).drewN m
end
end Go.Proofs.Ytlagccfllnhgbaa
