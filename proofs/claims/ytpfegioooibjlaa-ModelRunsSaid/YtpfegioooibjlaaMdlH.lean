/- The model's example; ModelNil. -/
import Derived.Test.YtpfegioooibjlaaMdlG
namespace Go.Proofs.Ytpfegioooibjlaa
open Go.RowKit
set_option linter.unusedVariables false
set_option linter.unusedSimpArgs false
def Ret (v : Value) (S : Nat → Prop) (w : World) (e : Ending) (w' : World) : Prop := e = .returned v ∧ Only S w w'
theorem ints_block (w : World) (t : TypeId) (l : List Int) (cs : Array Value) (hcs : cs = (ints l).toArray) (hl : l.length ≤ 1000) (n : Nat) (hn : n = l.length) : IntsAt (w.alloc (.cells cs t)) (.slice (some ⟨w.heap.size, 0, none⟩) n n) l := by
  subst hn hcs
  refine ⟨_, l.length, rfl, Nat.le_refl _, by unfold maxLen; omega, fun i hi => ⟨_, _, rfl, ?_⟩⟩
  refine (Box.fresh w t _).cellAt ?_
  rw [Nat.zero_add]
  simpa using ints_at l i hi
theorem Row.ints_at {w : World} {v : Value} {l : List Int} (h : Row 3 w v (ints l)) : IntsAt w v l := by
  obtain ⟨A, c, rfl, h1, h2⟩ := h.shape
  rw [ints_len] at h1 ⊢
  refine ⟨A, c, rfl, h1, h2, fun i hi => ?_⟩
  exact h.srcOf.2 i _ (Go.Proofs.Ytpfegioooibjlaa.ints_at l i hi)
theorem IntsAt.shape {w : World} {v : Value} {l : List Int} (h : IntsAt w v l) : ∃ A c, v = .slice A l.length c ∧ l.length ≤ c ∧ c ≤ maxLen := by
  obtain ⟨A, c, h1, h2, h3, _⟩ := h
  exact ⟨A, c, h1, h2, h3⟩
theorem same_vals (va vb : Value) (la lb : List Int) (w : World) (ha : IntsAt w va la) (hb : IntsAt w vb lb) (h1 : la.length ≤ 100000) (h2 : lb.length ≤ 100000) :
    Calls Try.prog 13 #[va, vb] w fun e w' => e = .returned (.bool (decide (la = lb))) ∧ ∃ m, w.drewN m = w' := by
  obtain ⟨A, ca, rfl, _⟩ := ha.shape
  obtain ⟨B, cb, rfl, _⟩ := hb.shape
  exact sameInts_any A B ca cb la lb w ha hb (by unfold maxLen; omega) (by unfold maxLen; omega)
section
set_option maxHeartbeats 2000000
set_option maxRecDepth 100000
theorem mwakes (w : World) : Calls Try.prog 7 #[] w (Ret (.bool true) Non w) := by
  have hal : Only Non w (w.alloc (.cells #[.int .i64 1, .int .i64 2, .int .i64 3, .int .i64 4] 3)) := (Only.refl _ _).alloc _
  have hR := run_any w.heap.size 1 1 1 _ 4 4 [1, 2, 3, 4] _ hal.size (ints_block w 3 [1, 2, 3, 4] _ rfl (by decide) 4 rfl) (by omega)
  have HR := Lib.hid hR
  have Hal := Lib.hid hal
  clear hal hR
  go_enter Try.func7, Try.ntmps7
  go_wp2_with fail
  refine HR.out.mono ?_
  intro e w1 hp
  rw [RunPost, if_pos (by decide), if_pos (by decide)] at hp
  obtain ⟨lb, F, rfl, hm, hF, ho⟩ := hp
  rw [show runM ((1 : Int).toNat + (1 : Int).toNat + (1 : Int).toNat) [1, 2, 3, 4] = ([4, 3, 2], 4) from by decide] at hm
  have Hm := Lib.hid hm
  have Ho := Lib.hid (Hal.out.trans ho)
  have HA := Lib.hid (all_any _ _ _ _ _ _ _ _ _ hm)
  clear hm hF ho HR
  go_wp2_with fail
  refine HA.out.mono ?_
  rintro e w2 ⟨v, rfl, hv, hvn, ho2⟩
  have hal2 : Only Non w2 (w2.alloc (.cells #[.int .i64 4, .int .i64 3, .int .i64 2] 3)) := (Only.refl _ _).alloc _
  have HS := Lib.hid (same_vals v _ [4, 3, 2] [4, 3, 2] _ ((hv.only hal2 fun _ _ => id).ints_at) (ints_block w2 3 [4, 3, 2] _ rfl (by decide) 3 rfl) (by decide) (by decide))
  have Ho2 := Lib.hid (Ho.out.trans (ho2.trans hal2))
  have Hm2 := Lib.hid (Hm.out.keep (ho2.trans hal2))
  clear hv hvn ho2 hal2
  go_wp2_with fail
  refine HS.out.mono ?_
  rintro e w3 ⟨rfl, q, e3⟩
  have Hm3 := Lib.hid (show MdlIs w3 _ lb F _ _ _ _ _ from by rw [← e3]; exact Hm2.out.keep ((Only.refl _ _).drewN q))
  have Ho3 := Lib.hid (show Only Non w w3 from by rw [← e3]; exact Ho2.out.drewN q)
  clear e3
  have HT := Lib.hid (tier_any _ _ _ _ _ _ _ _ 1 _ Hm3.out (by decide))
  go_wp2_with fail
  refine HT.out.mono ?_
  rintro e w4 ⟨v4, rfl, hv, hvn, ho4⟩
  have hal4 : Only Non w4 (w4.alloc (.cells #[.int .i64 3] 3)) := (Only.refl _ _).alloc _
  have HS4 := Lib.hid (same_vals v4 _ [3] [3] _ ((hv.only hal4 fun _ _ => id).ints_at) (ints_block w4 3 [3] _ rfl (by decide) 1 rfl) (by decide) (by decide))
  have Ho4 := Lib.hid (Ho3.out.trans (ho4.trans hal4))
  have Hm4 := Lib.hid (Hm3.out.keep (ho4.trans hal4))
  clear hv hvn ho4 hal4
  go_wp2_with fail
  refine HS4.out.mono ?_
  rintro e w5 ⟨rfl, q5, e5⟩
  have HM := Lib.hid (misses_any _ _ _ _ _ _ _ _ w5 (show MdlIs w5 _ lb F _ _ _ _ _ from by rw [← e5]; exact Hm4.out.keep ((Only.refl _ _).drewN q5)))
  have Ho5 := Lib.hid (show Only Non w w5 from by rw [← e5]; exact Ho4.out.drewN q5)
  clear e5
  go_wp2_with fail
  refine HM.out.mono ?_
  rintro e w6 ⟨rfl, e6⟩
  rw [← e6]
  clear e6
  go_wp2_with fail
  go_ret
  exact ⟨rfl, Ho5.out⟩
theorem modelNil_walk (b : Int) (w : World) : Calls Try.prog 5 #[.int .i64 b] w (Ret (.bool true) Non w) := by
  have HW := Lib.hid (mwakes w)
  have HU := Lib.hid (fun w => use_nil b w)
  have HA := Lib.hid (fun w => all_nil w)
  have HT := Lib.hid (fun w => tier_nil 1 w)
  have HM := Lib.hid (fun w => misses_nil w)
  go_enter Try.func5, Try.ntmps5
  go_wp2_with fail
  refine HW.out.mono ?_
  rintro e w1 ⟨rfl, ho⟩
  have Ho := Lib.hid ho
  clear ho
  go_wp2_with fail
  refine (HU.out _).mono ?_
  rintro e w2 ⟨rfl, rfl⟩
  go_wp2_with fail
  refine (HA.out _).mono ?_
  rintro e w2 ⟨rfl, rfl⟩
  go_wp2_with fail
  refine (HT.out _).mono ?_
  rintro e w2 ⟨rfl, rfl⟩
  go_wp2_with fail
  refine (HM.out _).mono ?_
  rintro e w2 ⟨rfl, rfl⟩
  go_wp2_with fail
  go_ret
  exact ⟨rfl, Ho.out⟩
end
end Go.Proofs.Ytpfegioooibjlaa
