/- NetTurns. -/
import Derived.Test.YtlagccfllnhgbaaNetJ
import Derived.Test.YtlagccfllnhgbaaDeep
namespace Go.Proofs.Ytlagccfllnhgbaa
open Go.RowKit
set_option linter.unusedVariables false
set_option linter.unusedSimpArgs false
def Abv (b : Nat) : Nat → Prop := fun k => b ≤ k
theorem NetIs.hi {T : TypeId} {w : World} {base nb : Nat} {F H : Nat → Prop} {c : Cont} (h : NetIs T w base nb F H c) {k : Nat} (hk : F k) : base ≤ k := by
  obtain ⟨hv, vs, rows, h⟩ := h; exact h.hi k hk
theorem NetIs.abv {T : TypeId} {w w' : World} {base nb : Nat} {F H : Nat → Prop} {c : Cont} (h : NetIs T w base nb F H c) (ho : Only F w w') : Only (Abv base) w w' := ho.mono fun b hb => .inl (h.hi hb)
theorem new_one : List.replicate (newN 1) ([] : List (List Int)) = [[]] := rfl
theorem send_one (r ls : List (List Int)) (h : r.length + ls.length ≤ 400) : sendK [r] (Int.toNat 0) ls (min ls.length (400 - (Cont.row [r] (Int.toNat 0)).length)) = [r ++ ls] := by
  have : min ls.length (400 - (Cont.row [r] (Int.toNat 0)).length) = ls.length := by show min ls.length (400 - r.length) = _; omega
  rw [this]
  show [r ++ ls.take ls.length] = _
  rw [List.take_length]
theorem has_one (r : List (List Int)) (i : Int) (h0 : 0 ≤ i) (h1 : i < r.length) : hasC [r] 0 i = true := by
  have : thereC [r] 0 = true := rfl
  simp only [hasC, this, Bool.true_and, Bool.and_eq_true, decide_eq_true_eq]
  exact ⟨h0, h1⟩
theorem swap_len (r : List (List Int)) (a b : Nat) : (swapL r a b).length = r.length := by simp [swapL]
theorem swap_swap (r : List (List Int)) (a b : Nat) (ha : a < r.length) (hb : b < r.length) : swapL (swapL r a b) a b = r := by
  apply List.ext_getElem (by simp [swapL])
  intro n h1 h2
  simp only [swapL, List.getElem_set, List.getD_eq_getElem?_getD, List.getElem?_set, List.length_set]
  by_cases e1 : b = n
  · subst e1
    by_cases e2 : a = b
    · subst e2; simp [ha]
    · simp [ha, hb, e2, Ne.symm e2]
  · by_cases e2 : a = n
    · subst e2; simp [ha, hb, e1]
    · simp [e1, e2]
section
set_option maxHeartbeats 4000000
theorem netTurns_walk (A : Option Addr) (cp : Nat) (fs : List Value) (ls : List (List Int)) (i k : Int) (w : World) (hfin : Fin w w.heap.size A fs ls) (hcp : ls.length ≤ cp) (hcm : cp ≤ maxLen)
    (hi0 : 0 ≤ i) (hi1 : i ≤ 255) (hk0 : 0 ≤ k) (hk1 : k ≤ 255) (h1 : 0 < ls.length) (h2 : ls.length ≤ 100) :
    Calls Try.prog 4 #[.slice A ls.length cp, .int .u8 i, .int .u8 k] w (Ret (.bool true) Non w) := by
  have HW := fun w => Lib.hid (nwakes w)
  have Hfin := Lib.hid hfin; clear hfin
  generalize hn : ls.length = n at *
  have Hn := Lib.hid hn; clear hn
  have Hcm := Lib.hid hcm
  unfold maxLen at hcm
  have hz0 : ((n : Int) == 0) = false := by simp; omega
  have hz1 : ¬ 100 < (n : Int) := by omega
  go_enter Try.func4, Try.ntmps4
  go_wp2_with fail
  refine (HW _).out.mono ?_
  rintro e w1 ⟨rfl, ho⟩
  have Ho1 := Lib.hid (show Only (Abv w.heap.size) w w1 from ho.mono fun _ h => h.elim); clear ho
  have HN := Lib.hid (nnew_any 1 w.heap.size w1 Ho1.out.size)
  go_wp2_with fail
  refine HN.out.mono ?_
  rintro e w2 ⟨nb, F, rfl, hn, hF, ho⟩
  have Ho2 := Lib.hid (show Only (Abv w.heap.size) w w2 from Ho1.out.trans' ho fun _ h => h.elim); clear ho
  rw [new_one] at hn
  have HS := nsend_yes w.heap.size nb F _ _ 0 A cp fs ls w2 hn Ho2.out.size ((Hfin.out.only Ho2.out fun _ h => h).frs fun k hk => hn.hi hk) (by rw [Hn.out]; omega) (by rw [Hn.out]; omega) Hcm.out (by decide) (by decide)
  rw [send_one [] ls (by rw [Hn.out]; simp; omega), Hn.out] at HS
  have HS := Lib.hid HS
  have Hnn := Lib.hid hn; clear hn hF
  go_wp2_with fail
  refine HS.out.mono ?_
  rintro e w3 ⟨rfl, F1, H1, hn, hF1, hH1, ho⟩
  have Ho3 := Lib.hid (show Only (Abv w.heap.size) w w3 from Ho2.out.trans (Hnn.out.abv ho)); clear ho hF1 hH1 Hnn
  have hn : NetIs 75 w3 w.heap.size nb F1 H1 [ls] := hn
  have Hnn := Lib.hid hn; clear hn
  go_wp2_with fail
  go_region
  have Ho4 := Lib.hid (show Only (Abv w.heap.size) w w3.drew from Ho3.out.drew)
  have Hn4 := Lib.hid (show NetIs 75 w3.drew w.heap.size nb F1 H1 [ls] from Hnn.out.keep ((Only.refl Non w3).drew))
  clear Ho1 Ho2 Ho3 HN HS hn Hnn
  generalize w3.drew = w4 at *
  have hia : 0 ≤ i % (n : Int) ∧ i % (n : Int) < n := ⟨Int.emod_nonneg _ (by omega), Int.emod_lt_of_pos _ (by omega)⟩
  have hka : 0 ≤ k % (n : Int) ∧ k % (n : Int) < n := ⟨Int.emod_nonneg _ (by omega), Int.emod_lt_of_pos _ (by omega)⟩
  generalize i % (n : Int) = a at *
  generalize k % (n : Int) = b at *
  have HT := Lib.hid (nturn_yes w.heap.size nb F1 H1 [ls] 0 a b w4 Hn4.out Ho4.out.size (has_one ls a hia.1 (by rw [Hn.out]; exact hia.2)) (has_one ls b hka.1 (by rw [Hn.out]; exact hka.2)))
  go_wp2_with fail
  refine HT.out.mono ?_
  rintro e w5 ⟨rfl, F5, H5, hn, hF5, hH5, ho⟩
  have Ho5 := Lib.hid (show Only (Abv w.heap.size) w w5 from Ho4.out.trans (Hn4.out.abv ho))
  have Hn5 := Lib.hid (show NetIs 75 w5 w.heap.size nb F5 H5 [swapL ls a.toNat b.toNat] from hn)
  clear HT hn hF5 hH5 ho
  have HT := Lib.hid (nturn_yes w.heap.size nb F5 H5 _ 0 a b w5 Hn5.out Ho5.out.size (has_one _ a hia.1 (by rw [swap_len, Hn.out]; exact hia.2)) (has_one _ b hka.1 (by rw [swap_len, Hn.out]; exact hka.2)))
  go_wp2_with fail
  refine HT.out.mono ?_
  rintro e w6 ⟨rfl, F6, H6, hn, hF6, hH6, ho⟩
  have Ho6 := Lib.hid (show Only (Abv w.heap.size) w w6 from Ho5.out.trans (Hn5.out.abv ho))
  have hn' : NetIs 75 w6 w.heap.size nb F6 H6 [swapL (swapL ls a.toNat b.toNat) a.toNat b.toNat] := hn
  rw [swap_swap ls a.toNat b.toNat (by rw [Hn.out]; omega) (by rw [Hn.out]; omega)] at hn'
  have Hn6 := Lib.hid hn'
  clear HT hn hn' hF6 hH6 ho
  have HT := Lib.hid (ntake_yes w.heap.size nb F6 H6 _ 0 a w6 Hn6.out Ho6.out.size (has_one _ a hia.1 (by rw [Hn.out]; exact hia.2)))
  go_wp2_with fail
  refine HT.out.mono ?_
  rintro e w7 ⟨v, rfl, hv, hvk, F7, H7, hn, hF7, hH7, ho⟩
  have Ho7 := Lib.hid (show Only (Abv w.heap.size) w w7 from Ho6.out.trans (Hn6.out.abv ho))
  have Hn7 := Lib.hid (show NetIs 75 w7 w.heap.size nb F7 H7 [ls.eraseIdx a.toNat] from hn)
  have Hv := Lib.hid (show Byt w7 v (ls.getD a.toNat []) from hv)
  have Hvk := Lib.hid (show ∀ k, ownB v k → ¬ F7 k from fun k hk hf => (hF7 k hf).elim (hvk k hk).2.1 fun h => by have := (hvk k hk).1; omega)
  clear HT hn hF7 hH7 ho hv hvk HS
  obtain ⟨Av, cv, ev, _⟩ := Hv.out
  subst ev
  generalize hlv : (ls.getD a.toNat []).length = nv at *
  clear hlv
  have hf7 := Hfin.out.only Ho7.out fun _ h => h
  obtain ⟨g, o, eA, hc⟩ := hf7.src.at_ (i := a.toNat) (by rw [hf7.len, Hn.out]; omega) undef
  have Hbf := Lib.hid (hf7.byt a.toNat (by rw [Hn.out]; omega))
  subst eA
  generalize hff : fs.getD a.toNat undef = f at *
  have Hff := Lib.hid hff
  clear hf7 hff
  have HM := Lib.hid (same_any _ f _ _ w7 Hv.out Hbf.out)
  rw [decide_eq_true (rfl : ls.getD a.toNat [] = ls.getD a.toNat [])] at HM
  go_wp2_with fail
  refine HM.out.mono ?_
  rintro e w8 ⟨rfl, m, e8⟩
  have k8 : Only Non w7 w8 := by rw [← e8]; exact (Only.refl _ _).drewN m
  have hF7 : ∀ k, F7 k → k < w8.heap.size := fun k hk => Nat.lt_of_lt_of_le (Hn7.out.flt hk) k8.size
  have Ho8 := Lib.hid (show Only (Abv w.heap.size) w w8 from Ho7.out.transN k8)
  have Hn8 := Lib.hid (show NetIs 75 (w8.alloc (.cells #[.slice Av nv cv] 26)) w.heap.size nb F7 H7 [ls.eraseIdx a.toNat] from Hn7.out.keep (k8.alloc _))
  have Hfr := Lib.hid (frs_one hF7 (Hv.out.only k8 fun _ _ => id) Hvk.out)
  clear e8 hc hF7
  have HS := nsend_yes w.heap.size nb F7 H7 [ls.eraseIdx a.toNat] 0 _ 1 _ _ _ Hn8.out (Ho8.out.alloc _).size Hfr.out (by simp) (by simp) (by decide) (by decide) (by simp)
  rw [send_one _ _ (by rw [List.length_eraseIdx, Hn.out, if_pos (by omega)]; simp; omega)] at HS
  have hle : (ls.eraseIdx a.toNat).length = n - 1 := by rw [List.length_eraseIdx, Hn.out, if_pos (by omega)]
  have hmn : min [ls.getD a.toNat []].length (400 - (Cont.row [ls.eraseIdx a.toNat] (Int.toNat 0)).length) = 1 := by
    show min 1 (400 - (ls.eraseIdx a.toNat).length) = 1
    omega
  rw [hmn] at HS
  have Hle := Lib.hid hle
  have HS' := Lib.hid HS
  clear HS hmn hle
  go_wp2_with fail
  refine HS'.out.mono ?_
  rintro e w9 ⟨rfl, F9, H9, hn, hF9, hH9, ho⟩
  have Ho9 := Lib.hid (show Only (Abv w.heap.size) w w9 from (Ho8.out.alloc _).trans (Hn8.out.abv ho))
  have Hn9 := Lib.hid (show NetIs 75 w9 w.heap.size nb F9 H9 [ls.eraseIdx a.toNat ++ [ls.getD a.toNat []]] from hn)
  have hl9 : (ls.eraseIdx a.toNat ++ [ls.getD a.toNat []]).length = n := by simp only [List.length_append, Hle.out, List.length_cons, List.length_nil]; omega
  have hg9 : (ls.eraseIdx a.toNat ++ [ls.getD a.toNat []]).getD (n - 1) [] = ls.getD a.toNat [] := by rw [← Hle.out]; exact getD_app_r _ _ _
  generalize ls.eraseIdx a.toNat ++ [ls.getD a.toNat []] = r9 at *
  have Hl9 := Lib.hid hl9
  have Hg9 := Lib.hid hg9
  clear HS' hn hF9 hH9 ho hl9 hg9
  have HT := Lib.hid (ntake_yes w.heap.size nb F9 H9 _ 0 ((n : Int) - 1) w9 Hn9.out Ho9.out.size (has_one _ _ (by omega) (by rw [Hl9.out]; omega)))
  go_wp2_with fail
  refine HT.out.mono ?_
  rintro e w10 ⟨v2, rfl, hv, hvk, F10, H10, hn, hF10, hH10, ho⟩
  have Ho10 := Lib.hid (show Only (Abv w.heap.size) w w10 from Ho9.out.trans (Hn9.out.abv ho))
  have Hn10 := Lib.hid (show NetIs 75 w10 w.heap.size nb F10 H10 [r9.eraseIdx ((n : Int) - 1).toNat] from hn)
  have hv' : Byt w10 v2 (r9.getD ((n : Int) - 1).toNat []) := hv
  rw [show ((n : Int) - 1).toNat = n - 1 by omega, Hg9.out] at hv'
  have Hv2 := Lib.hid hv'
  clear HT hn hF10 hH10 ho hv hvk hv'
  have hf10 := Hfin.out.only Ho10.out fun _ h => h
  obtain ⟨g', o', eA, hc⟩ := hf10.src.at_ (i := a.toNat) (by rw [hf10.len, Hn.out]; omega) undef
  have Hbf2 := Lib.hid (hf10.byt a.toNat (by rw [Hn.out]; omega))
  injection eA with eA
  injection eA with eA eB
  subst eA eB
  rw [Hff.out] at Hbf2 hc
  clear hf10
  have HM := Lib.hid (same_any v2 f _ _ w10 Hv2.out Hbf2.out)
  rw [decide_eq_true (rfl : ls.getD a.toNat [] = ls.getD a.toNat [])] at HM
  obtain ⟨Av2, cv2, ev2, _⟩ := Hv2.out
  generalize (ls.getD a.toNat []).length = nv2 at *
  subst ev2
  go_wp2_with fail
  refine HM.out.mono ?_
  rintro e w11 ⟨rfl, m2, e11⟩
  have k11 : Only Non w10 w11 := by rw [← e11]; exact (Only.refl _ _).drewN m2
  have Ho11 := Lib.hid (show Only (Abv w.heap.size) w w11 from Ho10.out.transN k11)
  have hL := nlen_any nb w.heap.size F10 H10 _ 0 w11 (Hn10.out.keep k11)
  have h10 : lenC [r9.eraseIdx ((n : Int) - 1).toNat] 0 = n - 1 := by
    show (r9.eraseIdx ((n : Int) - 1).toNat).length = n - 1
    rw [List.length_eraseIdx, Hl9.out, if_pos (by omega)]
  rw [h10] at hL
  have HL := Lib.hid hL
  clear e11 hc hL h10
  go_wp2_with fail
  refine HL.out.mono ?_
  rintro e w12 ⟨rfl, e12⟩
  have Ho12 := Lib.hid (show Only (Abv w.heap.size) w w12 from by rw [← e12]; exact Ho11.out)
  clear e12
  have hsub : ((n - 1 : Nat) : Int) = (n : Int) - 1 := by omega
  rw [hsub]
  go_wp2_with fail
  go_ret
  exact ⟨rfl, Ho12.out.mono fun b hb => .inr hb⟩
theorem netTurns_skip (A : Option Addr) (cp n : Nat) (i k : Int) (w : World) (hn : n = 0 ∨ 100 < n) (hm : n ≤ maxLen) :
    Calls Try.prog 4 #[.slice A n cp, .int .u8 i, .int .u8 k] w (Ret (.bool true) Non w) := by
  have HW := fun w => Lib.hid (nwakes w)
  unfold maxLen at hm
  rcases hn with hn | hn
  · subst hn
    go_enter Try.func4, Try.ntmps4
    go_wp2_with fail
    refine (HW _).out.mono ?_
    rintro e w1 ⟨rfl, ho⟩
    have Ho1 := Lib.hid ho; clear ho
    go_wp2_with fail
    go_ret
    exact ⟨rfl, Ho1.out⟩
  · have hz0 : ((n : Int) == 0) = false := by simp; omega
    have hz1 : 100 < (n : Int) := by omega
    go_enter Try.func4, Try.ntmps4
    go_wp2_with fail
    refine (HW _).out.mono ?_
    rintro e w1 ⟨rfl, ho⟩
    have Ho1 := Lib.hid ho; clear ho
    go_wp2_with fail
    go_ret
    exact ⟨rfl, Ho1.out⟩
end
end Go.Proofs.Ytlagccfllnhgbaa
