/- ModelUses. -/
import Derived.Test.YtpfegioooibjlaaModelTiers
namespace Go.Proofs.Ytpfegioooibjlaa
open Go.RowKit
set_option linter.unusedVariables false
set_option linter.unusedSimpArgs false
def U1 (base lb n : Nat) (c0 c1 c2 : Nat) (w : World) (u mv i : Value) (wr : World) : Prop :=
  ∃ (k : Nat) (us : List Int) (m : Nat) (F : Nat → Prop), k ≤ n ∧ i = .int .i64 k ∧ mv = .int .i64 m ∧ m ≤ k ∧ us.length ≤ k ∧ MdlIs wr base lb F c0 c1 c2 (refAll us (c0 + c1 + c2)) m ∧ Row 3 wr u (ints us) ∧ (∀ x, ownB u x → base ≤ x ∧ ¬ F x) ∧ Only (Abv base) w wr
section
set_option maxHeartbeats 4000000
set_option maxRecDepth 100000
theorem modelUses_no (c0 c1 c2 : Int) (A : Option Addr) (c : Nat) (bs : List Int) (w : World) (hbs : IntsAt w (.slice A bs.length c) bs) (hlen : bs.length ≤ 200) (hr : rightC c0 c1 c2 = false) :
    Calls Try.prog 3 #[.agg #[.int .i64 c0, .int .i64 c1, .int .i64 c2], .slice A bs.length c] w (Ret (.bool true) Non w) := by
  have HW := Lib.hid (fun w => mwakes w)
  have hal : Only Non w (w.alloc (.cells #[.int .i64 c0, .int .i64 c1, .int .i64 c2] 22)) := (Only.refl _ _).alloc _
  have hb := Box.fresh w 22 #[.int .i64 c0, .int .i64 c1, .int .i64 c2]
  have Hal := Lib.hid hal
  have Hb := Lib.hid hb
  have Hsz := Lib.hid (show w.heap.size + 1 ≤ (w.alloc (.cells #[.int .i64 c0, .int .i64 c1, .int .i64 c2] 22)).heap.size from by rw [World.size_alloc]; omega)
  have Hbs0 := Lib.hid hbs
  have Hbs := Lib.hid (show IntsAt (w.alloc (.cells #[.int .i64 c0, .int .i64 c1, .int .i64 c2] 22)) (.slice A bs.length c) bs from hbs.keep hal fun _ _ _ _ _ => id)
  obtain ⟨Ab, cb', eb, hcb, hcm⟩ := hbs.shape
  injection eb with eb1 eb2 eb3
  subst eb1 eb3
  clear eb2
  unfold maxLen at hcm
  clear hal hb hbs
  generalize hn : bs.length = n at *
  have Hn := Lib.hid hn
  clear hn
  go_enter Try.func3, Try.ntmps3
  go_wp2_with fail
  generalize w.alloc (.cells #[.int .i64 c0, .int .i64 c1, .int .i64 c2] 22) = W at *
  refine (HW.out _).mono ?_
  rintro e w1 ⟨rfl, ho⟩
  have Ho1 := Lib.hid (Hal.out.trans ho)
  have Hb1 := Lib.hid (ho.box Hb.out id)
  have Hbs1 := Lib.hid (Hbs.out.keep ho fun _ _ _ _ _ => id)
  have Hsz1 := Lib.hid (Nat.le_trans Hsz.out ho.size)
  clear ho Hal Hb Hbs Hsz
  have d0 : w1.cell? ⟨w.heap.size, 0, none⟩ = some (.int .i64 c0) := Hb1.out.cellAt rfl
  have d1 : w1.cell? ⟨w.heap.size, 1, none⟩ = some (.int .i64 c1) := Hb1.out.cellAt rfl
  have d2 : w1.cell? ⟨w.heap.size, 2, none⟩ = some (.int .i64 c2) := Hb1.out.cellAt rfl
  have HNew := Lib.hid (mnew_no (w.heap.size + 1) c0 c1 c2 w1 Hsz1.out hr)
  have hRt := fun w => right_any c0 c1 c2 w
  rw [hr] at hRt
  have HRt := Lib.hid hRt
  clear hr hRt
  go_wp2_with fail
  refine HNew.out.mono ?_
  rintro e w2 ⟨rfl, ho⟩
  have Ho2 := Lib.hid (Ho1.out.trans ho)
  have d0 := ho.cell d0 id
  have d1 := ho.cell d1 id
  have d2 := ho.cell d2 id
  clear ho
  go_wp2_with fail
  refine (HRt.out _).mono ?_
  rintro e w3 ⟨rfl, ho⟩
  have Ho3 := Lib.hid (Ho2.out.trans ho)
  clear ho
  go_wp2_with fail
  go_ret
  exact ⟨rfl, Ho3.out⟩
theorem modelUses_walk (c0 c1 c2 : Nat) (A : Option Addr) (c : Nat) (bs : List Int) (w : World) (hbs : IntsAt w (.slice A bs.length c) bs) (hlen : bs.length ≤ 200) (hr : rightC c0 c1 c2 = true) :
    Calls Try.prog 3 #[.agg #[.int .i64 c0, .int .i64 c1, .int .i64 c2], .slice A bs.length c] w (Ret (.bool true) Non w) := by
  have HW := Lib.hid (fun w => mwakes w)
  have hal : Only Non w (w.alloc (.cells #[.int .i64 c0, .int .i64 c1, .int .i64 c2] 22)) := (Only.refl _ _).alloc _
  have hb := Box.fresh w 22 #[.int .i64 c0, .int .i64 c1, .int .i64 c2]
  have Hal := Lib.hid hal
  have Hb := Lib.hid hb
  have Hsz := Lib.hid (show w.heap.size + 1 ≤ (w.alloc (.cells #[.int .i64 c0, .int .i64 c1, .int .i64 c2] 22)).heap.size from by rw [World.size_alloc]; omega)
  have Hbs0 := Lib.hid hbs
  have Hbs := Lib.hid (show IntsAt (w.alloc (.cells #[.int .i64 c0, .int .i64 c1, .int .i64 c2] 22)) (.slice A bs.length c) bs from hbs.keep hal fun _ _ _ _ _ => id)
  obtain ⟨Ab, cb', eb, hcb, hcm⟩ := hbs.shape
  injection eb with eb1 eb2 eb3
  subst eb1 eb3
  clear eb2
  unfold maxLen at hcm
  clear hal hb hbs
  generalize hn : bs.length = n at *
  have Hn := Lib.hid hn
  clear hn
  go_enter Try.func3, Try.ntmps3
  go_wp2_with fail
  generalize w.alloc (.cells #[.int .i64 c0, .int .i64 c1, .int .i64 c2] 22) = W at *
  refine (HW.out _).mono ?_
  rintro e w1 ⟨rfl, ho⟩
  have Ho1 := Lib.hid (Hal.out.trans ho)
  have Hb1 := Lib.hid (ho.box Hb.out id)
  have Hbs1 := Lib.hid (Hbs.out.keep ho fun _ _ _ _ _ => id)
  have Hsz1 := Lib.hid (Nat.le_trans Hsz.out ho.size)
  clear ho Hal Hb Hbs Hsz
  have d0 : w1.cell? ⟨w.heap.size, 0, none⟩ = some (.int .i64 c0) := Hb1.out.cellAt rfl
  have d1 : w1.cell? ⟨w.heap.size, 1, none⟩ = some (.int .i64 c1) := Hb1.out.cellAt rfl
  have d2 : w1.cell? ⟨w.heap.size, 2, none⟩ = some (.int .i64 c2) := Hb1.out.cellAt rfl
  have HNew := Lib.hid (mnew_yes (w.heap.size + 1) c0 c1 c2 w1 Hsz1.out hr)
  have hRt := fun w => right_any c0 c1 c2 w
  rw [hr] at hRt
  have HRt := Lib.hid hRt
  have hbd := right_bd hr
  clear hr hRt
  go_wp2_with fail
  refine HNew.out.mono ?_
  rintro e w2 ⟨lb, F, rfl, hm, hF, ho⟩
  have Ho2 := Lib.hid (Ho1.out.trans ho)
  have Hb2 := Lib.hid (ho.box Hb1.out id)
  have Hm2 := Lib.hid hm
  have d0 := ho.cell d0 id
  have d1 := ho.cell d1 id
  have d2 := ho.cell d2 id
  have Hsz2 := Lib.hid (Nat.le_trans Hsz1.out ho.size)
  clear hm hF ho HNew
  go_wp2_with fail
  refine (HRt.out _).mono ?_
  rintro e w3 ⟨rfl, ho⟩
  have Ho3 := Lib.hid (Ho2.out.trans ho)
  have Hb3 := Lib.hid (ho.box Hb2.out id)
  have Hsz3 := Lib.hid (Nat.le_trans Hsz2.out ho.size)
  have d0 := ho.cell d0 id
  have d1 := ho.cell d1 id
  have d2 := ho.cell d2 id
  have Hst := Lib.hid (show U1 (w.heap.size + 1) lb n c0 c1 c2 w3 (.slice none 0 0) (.int .i64 0) (.int .i64 0) w3 from ⟨0, [], 0, F, Nat.zero_le _, rfl, rfl, Nat.le_refl _, Nat.le_refl _, Hm2.out.keep ho, Row.nil_ _ _, fun k hk => (ownB_none hk).elim, Only.refl _ _⟩)
  clear ho Hb1 Hbs1 Hsz1 Hb2 Hsz2 Hm2 Ho1 Ho2
  have hc0 : c0 ≤ 16 := by omega
  have hc1 : c1 ≤ 16 := by omega
  have hc2 : c2 ≤ 16 := by omega
  go_wp2_with fail
  go_loopw [8, 9, 44] (fun u m i wr => U1 (w.heap.size + 1) lb n c0 c1 c2 w3 u m i wr) (fun _ _ i _ => n - (intOf i).toNat)
  case atStart => exact Hst.out
  case round =>
    clear Hst d0 d1 d2
    obtain ⟨k, us, m, F, hk, rfl, rfl, hmk, huk, hm, hrow, hown, ho⟩ := hrel
    have hwz := Nat.le_trans Hsz3.out ho.size
    have Hbx := Lib.hid (ho.box Hb3.out (fun h => by have h' : w.heap.size + 1 ≤ w.heap.size := h; omega))
    by_cases hlt : k < n
    · have hb3 := Hbs0.out.abv (Nat.le_succ _) ((Ho3.out.mono fun _ h => h.elim).trans ho)
      obtain ⟨g, o, rfl, hc⟩ := hb3.cellAt (show k < bs.length by rw [Hn.out]; exact hlt)
      generalize bs.getD k 0 = b at *
      have Hm := Lib.hid hm
      have Ho := Lib.hid ho
      have Hrow := Lib.hid hrow
      have Hown := Lib.hid hown
      have Hwz := Lib.hid hwz
      have Huk := Lib.hid (show us.length ≤ k + 1 from by omega)
      obtain ⟨Au, qu, eu, _, _⟩ := hrow.shape
      rw [ints_len] at eu
      clear hm ho hrow hown hb3
      cases hin : inR b
      · have hno := inR_no hin
        have HU := Lib.hid (use_out lb b wr hno)
        generalize hnu : us.length = nu at *
        have Hnu := Lib.hid hnu
        subst eu
        clear hin hnu
        rcases hno with hno | hno
        · go_wp2_with fail
          refine HU.out.mono ?_
          rintro e w5 ⟨rfl, rfl⟩
          go_wp2_with fail
          refine ⟨?_, by simp [intOf]; omega⟩
          exact ⟨k + 1, us, m, F, by omega, by simp, rfl, by omega, by rw [Hnu.out]; exact Huk.out, Hm.out, Hrow.out, Hown.out, Ho.out⟩
        · have hno2 : ¬ b < 0 := by omega
          go_wp2_with fail
          refine HU.out.mono ?_
          rintro e w5 ⟨rfl, rfl⟩
          go_wp2_with fail
          refine ⟨?_, by simp [intOf]; omega⟩
          exact ⟨k + 1, us, m, F, by omega, by simp, rfl, by omega, by rw [Hnu.out]; exact Huk.out, Hm.out, Hrow.out, Hown.out, Ho.out⟩
      · have hir := inR_yes hin
        have hb0 : ¬ b < 0 := by omega
        have hb1 : ¬ 63 < b := by omega
        have HU := Lib.hid (use_in (w.heap.size + 1) lb F c0 c1 c2 (refAll us (c0 + c1 + c2)) m b wr Hm.out hwz (by omega) hir.1 hir.2)
        have HA := Lib.hid (fun w' (hi : IntsAt w' (.slice Au us.length qu) us) => refall_any Au qu us.length (c0 + c1 + c2) us w' hi (by omega) (by omega))
        have ht1 := refAll_len us (c0 + c1 + c2)
        have HrowAt := Lib.hid (show IntsAt wr (.slice Au us.length qu) us from by rw [← eu]; exact Hrow.out.ints_at)
        have Heu := Lib.hid eu
        clear hin hir
        generalize hnu : us.length = nu at *
        have Hnu := Lib.hid hnu
        clear hnu
        subst eu
        by_cases hmem : b ∈ refAll us (c0 + c1 + c2)
        · have hU := HU.out
          unfold UsePost at hU
          rw [decide_eq_true hmem, if_pos hmem, ← refAll_snoc us (c0 + c1 + c2) b (by omega)] at hU
          have HU2 := Lib.hid hU
          have hH := fun w' A6 q6 n6 (hi : IntsAt w' (.slice A6 n6 q6) (refAll us (c0 + c1 + c2))) (hn : n6 ≤ maxLen) => has_ints A6 q6 n6 (refAll us (c0 + c1 + c2)) b w' hi hn
          rw [decide_eq_true hmem] at hH
          have HH := Lib.hid hH
          have hl2 := refAll_len (us ++ [b]) (c0 + c1 + c2)
          have Hl1 := Lib.hid ht1
          have HA2 := Lib.hid (fun A' q' n' w' (hi : IntsAt w' (.slice A' n' q') (us ++ [b])) (hn : n' ≤ 100000) => refall_any A' q' n' (c0 + c1 + c2) (us ++ [b]) w' hi hn (by omega))
          have Hul := Lib.hid (show (us ++ [b]).length ≤ k + 1 from by rw [List.length_append, List.length_singleton, Hnu.out]; omega)
          clear hU hH hmem HU ht1
          generalize refAll us (c0 + c1 + c2) = l1 at *
          generalize hl2e : refAll (us ++ [b]) (c0 + c1 + c2) = l2 at *
          have Hl2e := Lib.hid hl2e
          clear hl2e
          rw [show (((c0 + c1 + c2 : Nat)) : Int) = (c0 : Int) + c1 + c2 from by simp] at HA HA2
          go_wp2_with fail
          refine HU2.out.mono ?_
          rintro e w5 ⟨rfl, F5, hm5, hF5, ho5⟩
          have Hm5 := Lib.hid hm5
          have Hr5 := Lib.hid (Hrow.out.only ho5 fun x hx hf => (Hown.out x hx).2 hf)
          have Hown5 := Lib.hid (show ∀ x, ownB (.slice Au nu qu) x → w.heap.size + 1 ≤ x ∧ ¬ F5 x from fun x hx => ⟨(Hown.out x hx).1, fun hf => (hF5 x hf).elim (Hown.out x hx).2 fun h => by have := Hrow.out.lt hx; omega⟩)
          have Ho5 := Lib.hid (Ho.out.trans (Hm.out.abv ho5))
          have Hw5 := Lib.hid ho5.size
          clear hm5 hF5 ho5 HU2
          go_wp2_with fail
          refine (HA.out _ Hr5.out.ints_at).mono ?_
          rintro e w6 ⟨v6, rfl, hv6, ho6⟩
          have Ho56 := Lib.hid ho6
          have hi6 := hv6.at
          obtain ⟨A6, q6, e6, hq6, hq7⟩ := hv6.shape
          subst e6
          have HH6 := Lib.hid (HH.out w6 A6 q6 _ hi6 (by omega))
          clear hv6 ho6 hi6 HA
          go_wp2_with fail
          refine HH6.out.mono ?_
          rintro e w7 ⟨rfl, rfl⟩
          have hR6 := Hr5.out.only (Ho56.out.alloc (.cells #[.int .i64 b] 3)) (fun _ _ => id)
          have HR6 := Lib.hid hR6
          have hone := one_src w6 (.int .i64 b) 3
          have Hone := Lib.hid hone
          have L0 := Lib.hid (show (ints us).length ≤ 1000 from by rw [ints_len, Hnu.out]; omega)
          clear hR6 hone HH6
          go_wp2_with (at_builtin; refine wpList_append_row _ rfl (.tmp 80) (.tmp 82) 23 3 rfl intInfo rfl Try.underlying23 (.slice Au nu qu) (ints us) rfl HR6.out (some ⟨w6.heap.size, 0, none⟩) 1 1 [.int .i64 b] rfl rfl Hone.out (by simp [Value.oneCell']) (by have := L0.out; simp only [List.length_singleton]; unfold maxLen; omega) (by have := L0.out; simp only [List.length_singleton]; omega) ?_
                       intro v7 w7 hrow7 hgrow7 hown7 _
                       rw [show ints us ++ [Value.int .i64 b] = ints (us ++ [b]) from (ints_app us [b]).symm] at hrow7
                       have ho67 : Only (ownB (.slice Au nu qu)) w5 w7 := ((Ho56.out.alloc (.cells #[.int .i64 b] 3)).mono (fun _ h => h.elim)).trans hgrow7
                       have Hm7 := Lib.hid (Hm5.out.only ho67 fun x hx ho => (Hown5.out x ho).2 hx)
                       have Ho7 := Lib.hid (Ho5.out.trans' ho67 fun x hx => .inl (Hown5.out x hx).1)
                       have hw56 := Ho56.out.size
                       have Hown7 := Lib.hid (show ∀ x, ownB v7 x → w.heap.size + 1 ≤ x ∧ ¬ F5 x from fun x hx => (hown7 x hx).elim (Hown5.out x) fun h => by
                         rw [World.size_alloc] at h
                         refine ⟨?_, fun hf => ?_⟩
                         · have := Hw5.out; have := Hwz.out; omega
                         · have := Hm5.out.flt hf; omega)
                       have Hr7 := Lib.hid hrow7
                       obtain ⟨A7, q7, e7, _, _⟩ := hrow7.shape
                       rw [ints_len] at e7
                       clear hrow7 hgrow7 hown7 ho67 hw56
                       generalize hn7e : (us ++ [b]).length = n7 at *
                       have Hn7 := Lib.hid hn7e
                       clear hn7e
                       subst e7)
          have h7 := Hul.out
          refine (HA2.out A7 q7 n7 _ Hr7.out.ints_at (by omega)).mono ?_
          rintro e w8 ⟨v8, rfl, hv8, ho8⟩
          have Ho78 := Lib.hid ho8
          have Hv8 := Lib.hid hv8
          obtain ⟨A8, q8, e8, hq8, hq9⟩ := hv8.shape
          have HAl := Lib.hid (all_any (w.heap.size + 1) lb F5 c0 c1 c2 l2 m w8 (Hm7.out.keep ho8))
          clear hv8 ho8 HA2
          generalize hn8e : l2.length = n8 at *
          have Hn8 := Lib.hid hn8e
          clear hn8e
          subst e8
          go_wp2_with fail
          refine HAl.out.mono ?_
          rintro e w9 ⟨v9, rfl, hr9, _, ho9⟩
          have hS9 := same_vals v9 (.slice A8 n8 q8) l2 l2 w9 hr9.ints_at (Hv8.out.at.keep ho9 fun _ _ _ _ _ => id) (by rw [Hn8.out]; omega) (by rw [Hn8.out]; omega)
          rw [decide_eq_true rfl] at hS9
          have HS9 := Lib.hid hS9
          have Ho79 := Lib.hid (Ho78.out.trans ho9)
          have Ho89 := Lib.hid ho9
          obtain ⟨A9, q9, e9, _, _⟩ := hr9.shape
          clear hr9 ho9 hS9
          generalize (ints l2).length = n9 at *
          subst e9
          go_wp2_with fail
          refine HS9.out.mono ?_
          rintro e Z ⟨rfl, z, ez⟩
          have Ho7Z := Lib.hid (show Only Non w7 Z from by rw [← ez]; exact Ho79.out.drewN z)
          have Ho8Z := Lib.hid (show Only Non w8 Z from by rw [← ez]; exact Ho89.out.drewN z)
          clear ez
          have hMs := misses_any (w.heap.size + 1) lb F5 c0 c1 c2 l2 m Z (Hm7.out.keep Ho7Z.out)
          rw [show ((m : Nat) : Int) = (m : Int) from by simp] at hMs
          have HMs := Lib.hid hMs
          clear hMs
          go_wp2_with fail
          refine HMs.out.mono ?_
          rintro e Z' ⟨rfl, eZ⟩
          rw [← eZ]
          clear eZ
          have HoZ := Lib.hid (Ho7.out.trans' Ho7Z.out fun x hx => hx.elim)
          have HbZ := Lib.hid (HoZ.out.box Hb3.out (fun h => by have h' : w.heap.size + 1 ≤ w.heap.size := h; omega))
          have S0 := Lib.hid (show Z.cell? ⟨w.heap.size, 0, none⟩ = some (.int .i64 c0) from HbZ.out.cellAt rfl)
          have S1 := Lib.hid (show Z.cell? ⟨w.heap.size, 1, none⟩ = some (.int .i64 c1) from HbZ.out.cellAt rfl)
          have S2 := Lib.hid (show Z.cell? ⟨w.heap.size, 2, none⟩ = some (.int .i64 c2) from HbZ.out.cellAt rfl)
          have z0 := S0.out
          have z1 := S1.out
          have z2 := S2.out
          have HT := Lib.hid (fun t w' (ho : Only Non Z w') (ht : t < 3) => tier_at (w.heap.size + 1) lb F5 c0 c1 c2 l2 m t w' (Hm7.out.keep (Ho7Z.out.trans ho)) ht)
          have HT0 := Lib.hid (show ∀ w', Only Non Z w' → Calls Try.prog 16 #[.pointer (some ⟨lb, 0, none⟩), .int .i64 1] w' (ClonePost (tierL c0 c1 c2 0 l2) w') from fun w' ho => HT.out 0 w' ho (by omega))
          have HT1 := Lib.hid (show ∀ w', Only Non Z w' → Calls Try.prog 16 #[.pointer (some ⟨lb, 0, none⟩), .int .i64 2] w' (ClonePost (tierL c0 c1 c2 1 l2) w') from fun w' ho => HT.out 1 w' ho (by omega))
          have HT2 := Lib.hid (show ∀ w', Only Non Z w' → Calls Try.prog 16 #[.pointer (some ⟨lb, 0, none⟩), .int .i64 3] w' (ClonePost (tierL c0 c1 c2 2 l2) w') from fun w' ho => HT.out 2 w' ho (by omega))
          have hP := fun a m w' (ho : Only Non Z w') (hm : m ≤ 1000) (ha : a ≤ 1000) => part_any A8 q8 n8 a m l2 w' (Hv8.out.at.keep (Ho8Z.out.trans ho) fun _ _ _ _ _ => id) (by omega) hm ha
          have HP0 := Lib.hid (show ∀ w', Only Non Z w' → Calls Try.prog 17 #[.slice A8 n8 q8, .int .i64 0, .int .i64 c0] w' (fun e w2 => ∃ v, e = .returned v ∧ OwnInts 3 w2 w'.heap.size v ((l2.drop (preN c0 c1 c2 0)).take (capN c0 c1 c2 0)) ∧ Only Non w' w2) from fun w' ho => hP 0 c0 w' ho (by omega) (by omega))
          have HP1 := Lib.hid (show ∀ w', Only Non Z w' → Calls Try.prog 17 #[.slice A8 n8 q8, .int .i64 c0, .int .i64 c1] w' (fun e w2 => ∃ v, e = .returned v ∧ OwnInts 3 w2 w'.heap.size v ((l2.drop (preN c0 c1 c2 1)).take (capN c0 c1 c2 1)) ∧ Only Non w' w2) from fun w' ho => by
            have := hP c0 c1 w' ho (by omega) (by omega)
            rw [show preN c0 c1 c2 1 = c0 from Nat.zero_add c0]
            exact this)
          have HP2 := Lib.hid (show ∀ w', Only Non Z w' → Calls Try.prog 17 #[.slice A8 n8 q8, .int .i64 ((c0 : Int) + c1), .int .i64 c2] w' (fun e w2 => ∃ v, e = .returned v ∧ OwnInts 3 w2 w'.heap.size v ((l2.drop (preN c0 c1 c2 2)).take (capN c0 c1 c2 2)) ∧ Only Non w' w2) from fun w' ho => by
            have := hP (c0 + c1) c2 w' ho (by omega) (by omega)
            rw [show (((c0 + c1 : Nat)) : Int) = (c0 : Int) + c1 from by simp] at this
            rw [show preN c0 c1 c2 2 = c0 + c1 from by simp [preN, capN]]
            exact this)
          have EP0 := Lib.hid (show tierL c0 c1 c2 0 l2 = (l2.drop (preN c0 c1 c2 0)).take (capN c0 c1 c2 0) from rfl)
          have EP1 := Lib.hid (show tierL c0 c1 c2 1 l2 = (l2.drop (preN c0 c1 c2 1)).take (capN c0 c1 c2 1) from rfl)
          have EP2 := Lib.hid (show tierL c0 c1 c2 2 l2 = (l2.drop (preN c0 c1 c2 2)).take (capN c0 c1 c2 2) from rfl)
          have Hl2 := Lib.hid (show l2.length ≤ 48 from by rw [Hn8.out]; omega)
          have ew : IntKind.i64.wrap ((c0 : Int) + c1) = c0 + c1 := IntWalk.i64_in _ (by omega)
          clear hP h7
          go_wp2_with fail
          refine wp_region_tail (S := fun w' => w'.cell? ⟨w.heap.size, 0, none⟩ = some (.int .i64 c0) ∧ w'.cell? ⟨w.heap.size, 1, none⟩ = some (.int .i64 c1) ∧ w'.cell? ⟨w.heap.size, 2, none⟩ = some (.int .i64 c2)) 34 (by kernel_rfl) (by kernel_rfl) ?_ ?_
          · refine ⟨?_, ?_, ?_⟩ <;> assumption
          intro hSS
          refine wpHd_take (i := 0) (v := ?_) (by kernel_rfl) rfl (by kernel_rfl) (fun _ _ _ h => h) (Or.inl ⟨by rfl, ?_⟩) (by assumption) ?_
          rotate_left
          · intro w hSw; (try dsimp only at hSw); go_simp; (try with_reducible rfl)
          try simp only [Act.put, List.getElem_toArray, List.getElem_cons_succ, List.getElem_cons_zero, List.setIfInBounds_toArray, List.set_cons_zero, List.set_cons_succ]
          refine wpHd_take (i := 2) (v := ?_) (by kernel_rfl) rfl (by kernel_rfl) (fun _ _ _ h => h) (Or.inl ⟨by rfl, ?_⟩) (by assumption) ?_
          rotate_left
          · intro w hSw; (try dsimp only at hSw); go_simp; (try with_reducible rfl)
          try simp only [Act.put, List.getElem_toArray, List.getElem_cons_succ, List.getElem_cons_zero, List.setIfInBounds_toArray, List.set_cons_zero, List.set_cons_succ]
          refine wpHd_take (i := 3) (v := ?_) (by kernel_rfl) rfl (by kernel_rfl) (fun _ _ _ h => h) (Or.inl ⟨by rfl, ?_⟩) (by assumption) ?_
          rotate_left
          · intro w hSw; (try dsimp only at hSw); go_simp; (try with_reducible rfl)
          try simp only [Act.put, List.getElem_toArray, List.getElem_cons_succ, List.getElem_cons_zero, List.setIfInBounds_toArray, List.set_cons_zero, List.set_cons_succ]
          refine wpHd_take (i := 4) (v := ?_) (by kernel_rfl) rfl (by kernel_rfl) (fun _ _ _ h => h) (Or.inl ⟨by rfl, ?_⟩) (by assumption) ?_
          rotate_left
          · intro w hSw; (try dsimp only at hSw); go_simp; (try with_reducible rfl)
          try simp only [Act.put, List.getElem_toArray, List.getElem_cons_succ, List.getElem_cons_zero, List.setIfInBounds_toArray, List.set_cons_zero, List.set_cons_succ]
          refine wpHd_one (i := 1) rfl (by kernel_rfl) (fun K hK => ?_)
          go_simp
          refine (HT0.out _ ((Only.refl Non Z).drew)).mono ?_
          rintro e x1 ⟨vx1, rfl, hr, hnn, hoo⟩
          have Hrx1 := Lib.hid hr
          have Hox1 := Lib.hid (((Only.refl Non Z).drew).trans hoo)
          obtain ⟨Ax1, qx1, ex1, _, _⟩ := hr.shape
          have s0x1 := Hox1.out.cell S0.out id
          have s1x1 := Hox1.out.cell S1.out id
          have s2x1 := Hox1.out.cell S2.out id
          clear hr hnn hoo
          generalize (ints (tierL c0 c1 c2 0 l2)).length = nx1 at *
          subst ex1
          refine hK.out _ _ ?_ (fun hSS => ?_)
          · refine ⟨?_, ?_, ?_⟩ <;> assumption
          clear hK
          try simp only [Act.put, List.getElem_toArray, List.getElem_cons_succ, List.getElem_cons_zero, List.setIfInBounds_toArray, List.set_cons_zero, List.set_cons_succ]
          refine wpHd_one (i := 5) rfl (by kernel_rfl) (fun K hK => ?_)
          go_simp
          refine (HP0.out _ (Hox1.out)).mono ?_
          rintro e x2 ⟨vx2, rfl, hr, hoo⟩
          have HSx2 := Lib.hid (same_vals _ _ (tierL c0 c1 c2 0 l2) _ x2 (Hrx1.out.only hoo fun _ _ => id).ints_at hr.at (Nat.le_trans (tierL_le c0 c1 c2 0 l2) (by have := Hl2.out; omega)) (by rw [← EP0.out]; exact Nat.le_trans (tierL_le c0 c1 c2 0 l2) (by have := Hl2.out; omega)))
          rw [decide_eq_true EP0.out] at HSx2
          have Hox2 := Lib.hid ((Hox1.out).trans hoo)
          obtain ⟨Ax2, qx2, ex2, _, _⟩ := hr.shape
          have s0x2 := Hox2.out.cell S0.out id
          have s1x2 := Hox2.out.cell S1.out id
          have s2x2 := Hox2.out.cell S2.out id
          clear hr hoo
          generalize (List.take (capN c0 c1 c2 0) (List.drop (preN c0 c1 c2 0) l2)).length = nx2 at *
          subst ex2
          refine hK.out _ _ ?_ (fun hSS => ?_)
          · refine ⟨?_, ?_, ?_⟩ <;> assumption
          clear hK
          try simp only [Act.put, List.getElem_toArray, List.getElem_cons_succ, List.getElem_cons_zero, List.setIfInBounds_toArray, List.set_cons_zero, List.set_cons_succ]
          refine wpHd_one (i := 6) rfl (by kernel_rfl) (fun K hK => ?_)
          go_simp
          refine HSx2.out.mono ?_
          rintro e x3 ⟨rfl, z, ez⟩
          have Hox3 := Lib.hid (show Only Non Z x3 from by rw [← ez]; exact Hox2.out.drewN z)
          clear ez
          have s0x3 := Hox3.out.cell S0.out id
          have s1x3 := Hox3.out.cell S1.out id
          have s2x3 := Hox3.out.cell S2.out id
          refine hK.out _ _ ?_ (fun hSS => ?_)
          · refine ⟨?_, ?_, ?_⟩ <;> assumption
          clear hK
          try simp only [Act.put, List.getElem_toArray, List.getElem_cons_succ, List.getElem_cons_zero, List.setIfInBounds_toArray, List.set_cons_zero, List.set_cons_succ]
          refine wpHd_take (i := 7) (v := ?_) (by kernel_rfl) rfl (by kernel_rfl) (fun _ _ _ h => h) (Or.inl ⟨by rfl, ?_⟩) (by assumption) ?_
          rotate_left
          · intro w hSw; (try dsimp only at hSw); go_simp; (try with_reducible rfl)
          try simp only [Act.put, List.getElem_toArray, List.getElem_cons_succ, List.getElem_cons_zero, List.setIfInBounds_toArray, List.set_cons_zero, List.set_cons_succ]
          refine wpHd_take (i := 8) (v := ?_) (by kernel_rfl) rfl (by kernel_rfl) (fun _ _ _ h => h) (Or.inl ⟨by rfl, ?_⟩) (by assumption) ?_
          rotate_left
          · intro w hSw; (try dsimp only at hSw); go_simp; (try with_reducible rfl)
          try simp only [Act.put, List.getElem_toArray, List.getElem_cons_succ, List.getElem_cons_zero, List.setIfInBounds_toArray, List.set_cons_zero, List.set_cons_succ]
          refine wpHd_take (i := 9) (v := ?_) (by kernel_rfl) rfl (by kernel_rfl) (fun _ _ _ h => h) (Or.inl ⟨by rfl, ?_⟩) (by assumption) ?_
          rotate_left
          · intro w hSw; (try dsimp only at hSw); go_simp; (try with_reducible rfl)
          try simp only [Act.put, List.getElem_toArray, List.getElem_cons_succ, List.getElem_cons_zero, List.setIfInBounds_toArray, List.set_cons_zero, List.set_cons_succ]
          refine wpHd_take (i := 11) (v := ?_) (by kernel_rfl) rfl (by kernel_rfl) (fun _ _ _ h => h) (Or.inl ⟨by rfl, ?_⟩) (by assumption) ?_
          rotate_left
          · intro w hSw; (try dsimp only at hSw); go_simp; (try with_reducible rfl)
          try simp only [Act.put, List.getElem_toArray, List.getElem_cons_succ, List.getElem_cons_zero, List.setIfInBounds_toArray, List.set_cons_zero, List.set_cons_succ]
          refine wpHd_take (i := 12) (v := ?_) (by kernel_rfl) rfl (by kernel_rfl) (fun _ _ _ h => h) (Or.inl ⟨by rfl, ?_⟩) (by assumption) ?_
          rotate_left
          · intro w hSw; (try dsimp only at hSw); go_simp; (try with_reducible rfl)
          try simp only [Act.put, List.getElem_toArray, List.getElem_cons_succ, List.getElem_cons_zero, List.setIfInBounds_toArray, List.set_cons_zero, List.set_cons_succ]
          refine wpHd_take (i := 13) (v := ?_) (by kernel_rfl) rfl (by kernel_rfl) (fun _ _ _ h => h) (Or.inl ⟨by rfl, ?_⟩) (by assumption) ?_
          rotate_left
          · intro w hSw; (try dsimp only at hSw); go_simp; (try with_reducible rfl)
          try simp only [Act.put, List.getElem_toArray, List.getElem_cons_succ, List.getElem_cons_zero, List.setIfInBounds_toArray, List.set_cons_zero, List.set_cons_succ]
          refine wpHd_take (i := 14) (v := ?_) (by kernel_rfl) rfl (by kernel_rfl) (fun _ _ _ h => h) (Or.inl ⟨by rfl, ?_⟩) (by assumption) ?_
          rotate_left
          · intro w hSw; (try dsimp only at hSw); go_simp; (try with_reducible rfl)
          try simp only [Act.put, List.getElem_toArray, List.getElem_cons_succ, List.getElem_cons_zero, List.setIfInBounds_toArray, List.set_cons_zero, List.set_cons_succ]
          refine wpHd_take (i := 15) (v := ?_) (by kernel_rfl) rfl (by kernel_rfl) (fun _ _ _ h => h) (Or.inl ⟨by rfl, ?_⟩) (by assumption) ?_
          rotate_left
          · intro w hSw; (try dsimp only at hSw); go_simp; (try with_reducible rfl)
          try simp only [Act.put, List.getElem_toArray, List.getElem_cons_succ, List.getElem_cons_zero, List.setIfInBounds_toArray, List.set_cons_zero, List.set_cons_succ]
          refine wpHd_one (i := 10) rfl (by kernel_rfl) (fun K hK => ?_)
          go_simp
          refine (HT1.out _ (Hox3.out)).mono ?_
          rintro e x4 ⟨vx4, rfl, hr, hnn, hoo⟩
          have Hrx4 := Lib.hid hr
          have Hox4 := Lib.hid ((Hox3.out).trans hoo)
          obtain ⟨Ax4, qx4, ex4, _, _⟩ := hr.shape
          have s0x4 := Hox4.out.cell S0.out id
          have s1x4 := Hox4.out.cell S1.out id
          have s2x4 := Hox4.out.cell S2.out id
          clear hr hnn hoo
          generalize (ints (tierL c0 c1 c2 1 l2)).length = nx4 at *
          subst ex4
          refine hK.out _ _ ?_ (fun hSS => ?_)
          · refine ⟨?_, ?_, ?_⟩ <;> assumption
          clear hK
          try simp only [Act.put, List.getElem_toArray, List.getElem_cons_succ, List.getElem_cons_zero, List.setIfInBounds_toArray, List.set_cons_zero, List.set_cons_succ]
          refine wpHd_one (i := 16) rfl (by kernel_rfl) (fun K hK => ?_)
          go_simp
          refine (HP1.out _ (Hox4.out)).mono ?_
          rintro e x5 ⟨vx5, rfl, hr, hoo⟩
          have HSx5 := Lib.hid (same_vals _ _ (tierL c0 c1 c2 1 l2) _ x5 (Hrx4.out.only hoo fun _ _ => id).ints_at hr.at (Nat.le_trans (tierL_le c0 c1 c2 1 l2) (by have := Hl2.out; omega)) (by rw [← EP1.out]; exact Nat.le_trans (tierL_le c0 c1 c2 1 l2) (by have := Hl2.out; omega)))
          rw [decide_eq_true EP1.out] at HSx5
          have Hox5 := Lib.hid ((Hox4.out).trans hoo)
          obtain ⟨Ax5, qx5, ex5, _, _⟩ := hr.shape
          have s0x5 := Hox5.out.cell S0.out id
          have s1x5 := Hox5.out.cell S1.out id
          have s2x5 := Hox5.out.cell S2.out id
          clear hr hoo
          generalize (List.take (capN c0 c1 c2 1) (List.drop (preN c0 c1 c2 1) l2)).length = nx5 at *
          subst ex5
          refine hK.out _ _ ?_ (fun hSS => ?_)
          · refine ⟨?_, ?_, ?_⟩ <;> assumption
          clear hK
          try simp only [Act.put, List.getElem_toArray, List.getElem_cons_succ, List.getElem_cons_zero, List.setIfInBounds_toArray, List.set_cons_zero, List.set_cons_succ]
          refine wpHd_one (i := 17) rfl (by kernel_rfl) (fun K hK => ?_)
          go_simp
          refine HSx5.out.mono ?_
          rintro e x6 ⟨rfl, z, ez⟩
          have Hox6 := Lib.hid (show Only Non Z x6 from by rw [← ez]; exact Hox5.out.drewN z)
          clear ez
          have s0x6 := Hox6.out.cell S0.out id
          have s1x6 := Hox6.out.cell S1.out id
          have s2x6 := Hox6.out.cell S2.out id
          refine hK.out _ _ ?_ (fun hSS => ?_)
          · refine ⟨?_, ?_, ?_⟩ <;> assumption
          clear hK
          try simp only [Act.put, List.getElem_toArray, List.getElem_cons_succ, List.getElem_cons_zero, List.setIfInBounds_toArray, List.set_cons_zero, List.set_cons_succ]
          refine wpHd_take (i := 18) (v := ?_) (by kernel_rfl) rfl (by kernel_rfl) (fun _ _ _ h => h) (Or.inl ⟨by rfl, ?_⟩) (by assumption) ?_
          rotate_left
          · intro w hSw; (try dsimp only at hSw); go_simp; (try with_reducible rfl)
          try simp only [Act.put, List.getElem_toArray, List.getElem_cons_succ, List.getElem_cons_zero, List.setIfInBounds_toArray, List.set_cons_zero, List.set_cons_succ]
          refine wpHd_take (i := 19) (v := ?_) (by kernel_rfl) rfl (by kernel_rfl) (fun _ _ _ h => h) (Or.inl ⟨by rfl, ?_⟩) (by assumption) ?_
          rotate_left
          · intro w hSw; (try dsimp only at hSw); go_simp; (try with_reducible rfl)
          try simp only [Act.put, List.getElem_toArray, List.getElem_cons_succ, List.getElem_cons_zero, List.setIfInBounds_toArray, List.set_cons_zero, List.set_cons_succ]
          refine wpHd_take (i := 20) (v := ?_) (by kernel_rfl) rfl (by kernel_rfl) (fun _ _ _ h => h) (Or.inl ⟨by rfl, ?_⟩) (by assumption) ?_
          rotate_left
          · intro w hSw; (try dsimp only at hSw); go_simp; (try with_reducible rfl)
          try simp only [Act.put, List.getElem_toArray, List.getElem_cons_succ, List.getElem_cons_zero, List.setIfInBounds_toArray, List.set_cons_zero, List.set_cons_succ]
          refine wpHd_take (i := 21) (v := ?_) (by kernel_rfl) rfl (by kernel_rfl) (fun _ _ _ h => h) (Or.inl ⟨by rfl, ?_⟩) (by assumption) ?_
          rotate_left
          · intro w hSw; (try dsimp only at hSw); go_simp; (try with_reducible rfl)
          try simp only [Act.put, List.getElem_toArray, List.getElem_cons_succ, List.getElem_cons_zero, List.setIfInBounds_toArray, List.set_cons_zero, List.set_cons_succ]
          refine wpHd_take (i := 23) (v := ?_) (by kernel_rfl) rfl (by kernel_rfl) (fun _ _ _ h => h) (Or.inl ⟨by rfl, ?_⟩) (by assumption) ?_
          rotate_left
          · intro w hSw; (try dsimp only at hSw); go_simp; (try with_reducible rfl)
          try simp only [Act.put, List.getElem_toArray, List.getElem_cons_succ, List.getElem_cons_zero, List.setIfInBounds_toArray, List.set_cons_zero, List.set_cons_succ]
          refine wpHd_take (i := 24) (v := ?_) (by kernel_rfl) rfl (by kernel_rfl) (fun _ _ _ h => h) (Or.inl ⟨by rfl, ?_⟩) (by assumption) ?_
          rotate_left
          · intro w hSw; (try dsimp only at hSw); go_simp; (try with_reducible rfl)
          try simp only [Act.put, List.getElem_toArray, List.getElem_cons_succ, List.getElem_cons_zero, List.setIfInBounds_toArray, List.set_cons_zero, List.set_cons_succ]
          refine wpHd_take (i := 25) (v := ?_) (by kernel_rfl) rfl (by kernel_rfl) (fun _ _ _ h => h) (Or.inl ⟨by rfl, ?_⟩) (by assumption) ?_
          rotate_left
          · intro w hSw; (try dsimp only at hSw); go_simp; (try with_reducible rfl)
          try simp only [Act.put, List.getElem_toArray, List.getElem_cons_succ, List.getElem_cons_zero, List.setIfInBounds_toArray, List.set_cons_zero, List.set_cons_succ]
          refine wpHd_take (i := 26) (v := ?_) (by kernel_rfl) rfl (by kernel_rfl) (fun _ _ _ h => h) (Or.inl ⟨by rfl, ?_⟩) (by assumption) ?_
          rotate_left
          · intro w hSw; (try dsimp only at hSw); go_simp; (try with_reducible rfl)
          try simp only [Act.put, List.getElem_toArray, List.getElem_cons_succ, List.getElem_cons_zero, List.setIfInBounds_toArray, List.set_cons_zero, List.set_cons_succ]
          refine wpHd_take (i := 27) (v := ?_) (by kernel_rfl) rfl (by kernel_rfl) (fun _ _ _ h => h) (Or.inl ⟨by rfl, ?_⟩) (by assumption) ?_
          rotate_left
          · intro w hSw; (try dsimp only at hSw); go_simp; (try with_reducible rfl)
          try simp only [Act.put, List.getElem_toArray, List.getElem_cons_succ, List.getElem_cons_zero, List.setIfInBounds_toArray, List.set_cons_zero, List.set_cons_succ]
          refine wpHd_take (i := 28) (v := ?_) (by kernel_rfl) rfl (by kernel_rfl) (fun _ _ _ h => h) (Or.inl ⟨by rfl, ?_⟩) (by assumption) ?_
          rotate_left
          · intro w hSw; (try dsimp only at hSw); go_simp; (try with_reducible rfl)
          try simp only [Act.put, List.getElem_toArray, List.getElem_cons_succ, List.getElem_cons_zero, List.setIfInBounds_toArray, List.set_cons_zero, List.set_cons_succ]
          refine wpHd_take (i := 29) (v := ?_) (by kernel_rfl) rfl (by kernel_rfl) (fun _ _ _ h => h) (Or.inl ⟨by rfl, ?_⟩) (by assumption) ?_
          rotate_left
          · intro w hSw; (try dsimp only at hSw); go_simp; (try with_reducible rfl)
          try simp only [Act.put, List.getElem_toArray, List.getElem_cons_succ, List.getElem_cons_zero, List.setIfInBounds_toArray, List.set_cons_zero, List.set_cons_succ]
          refine wpHd_take (i := 30) (v := ?_) (by kernel_rfl) rfl (by kernel_rfl) (fun _ _ _ h => h) (Or.inl ⟨by rfl, ?_⟩) (by assumption) ?_
          rotate_left
          · intro w hSw; (try dsimp only at hSw); go_simp; (try with_reducible rfl)
          try simp only [Act.put, List.getElem_toArray, List.getElem_cons_succ, List.getElem_cons_zero, List.setIfInBounds_toArray, List.set_cons_zero, List.set_cons_succ]
          refine wpHd_one (i := 22) rfl (by kernel_rfl) (fun K hK => ?_)
          go_simp
          refine (HT2.out _ (Hox6.out)).mono ?_
          rintro e x7 ⟨vx7, rfl, hr, hnn, hoo⟩
          have Hrx7 := Lib.hid hr
          have Hox7 := Lib.hid ((Hox6.out).trans hoo)
          obtain ⟨Ax7, qx7, ex7, _, _⟩ := hr.shape
          have s0x7 := Hox7.out.cell S0.out id
          have s1x7 := Hox7.out.cell S1.out id
          have s2x7 := Hox7.out.cell S2.out id
          clear hr hnn hoo
          generalize (ints (tierL c0 c1 c2 2 l2)).length = nx7 at *
          subst ex7
          refine hK.out _ _ ?_ (fun hSS => ?_)
          · refine ⟨?_, ?_, ?_⟩ <;> assumption
          clear hK
          try simp only [Act.put, List.getElem_toArray, List.getElem_cons_succ, List.getElem_cons_zero, List.setIfInBounds_toArray, List.set_cons_zero, List.set_cons_succ]
          refine wpHd_one (i := 31) rfl (by kernel_rfl) (fun K hK => ?_)
          go_simp
          refine (HP2.out _ (Hox7.out)).mono ?_
          rintro e x8 ⟨vx8, rfl, hr, hoo⟩
          have HSx8 := Lib.hid (same_vals _ _ (tierL c0 c1 c2 2 l2) _ x8 (Hrx7.out.only hoo fun _ _ => id).ints_at hr.at (Nat.le_trans (tierL_le c0 c1 c2 2 l2) (by have := Hl2.out; omega)) (by rw [← EP2.out]; exact Nat.le_trans (tierL_le c0 c1 c2 2 l2) (by have := Hl2.out; omega)))
          rw [decide_eq_true EP2.out] at HSx8
          have Hox8 := Lib.hid ((Hox7.out).trans hoo)
          obtain ⟨Ax8, qx8, ex8, _, _⟩ := hr.shape
          have s0x8 := Hox8.out.cell S0.out id
          have s1x8 := Hox8.out.cell S1.out id
          have s2x8 := Hox8.out.cell S2.out id
          clear hr hoo
          generalize (List.take (capN c0 c1 c2 2) (List.drop (preN c0 c1 c2 2) l2)).length = nx8 at *
          subst ex8
          refine hK.out _ _ ?_ (fun hSS => ?_)
          · refine ⟨?_, ?_, ?_⟩ <;> assumption
          clear hK
          try simp only [Act.put, List.getElem_toArray, List.getElem_cons_succ, List.getElem_cons_zero, List.setIfInBounds_toArray, List.set_cons_zero, List.set_cons_succ]
          refine wpHd_one (i := 32) rfl (by kernel_rfl) (fun K hK => ?_)
          go_simp
          refine HSx8.out.mono ?_
          rintro e x9 ⟨rfl, z, ez⟩
          have Hox9 := Lib.hid (show Only Non Z x9 from by rw [← ez]; exact Hox8.out.drewN z)
          clear ez
          have s0x9 := Hox9.out.cell S0.out id
          have s1x9 := Hox9.out.cell S1.out id
          have s2x9 := Hox9.out.cell S2.out id
          refine hK.out _ _ ?_ (fun hSS => ?_)
          · refine ⟨?_, ?_, ?_⟩ <;> assumption
          clear hK
          try simp only [Act.put, List.getElem_toArray, List.getElem_cons_succ, List.getElem_cons_zero, List.setIfInBounds_toArray, List.set_cons_zero, List.set_cons_succ]
          refine wpHd_take (i := 33) (v := ?_) (by kernel_rfl) rfl (by kernel_rfl) (fun _ _ _ h => h) (Or.inl ⟨by rfl, ?_⟩) (by assumption) ?_
          rotate_left
          · intro w hSw; (try dsimp only at hSw); go_simp; (try with_reducible rfl)
          try simp only [Act.put, List.getElem_toArray, List.getElem_cons_succ, List.getElem_cons_zero, List.setIfInBounds_toArray, List.set_cons_zero, List.set_cons_succ]
          refine wpHd_end (by kernel_rfl) ?_
          clear hSS
          go_wp2_with fail
          refine ⟨?_, by simp [intOf]; omega⟩
          exact ⟨k + 1, us ++ [b], m, F5, by omega, by simp, rfl, by omega, Nat.le_trans (Nat.le_of_eq Hn7.out) Hul.out, by rw [Hl2e.out]; exact Hm7.out.keep (Ho7Z.out.trans Hox9.out), Hr7.out.only (Ho7Z.out.trans Hox9.out) (fun _ _ => id), Hown7.out, HoZ.out.trans' Hox9.out fun x hx => hx.elim⟩
        · have hU := HU.out
          unfold UsePost at hU
          rw [decide_eq_false hmem, if_neg hmem, ← refAll_snoc us (c0 + c1 + c2) b (by omega)] at hU
          have HU2 := Lib.hid hU
          have hH := fun w' A6 q6 n6 (hi : IntsAt w' (.slice A6 n6 q6) (refAll us (c0 + c1 + c2))) (hn : n6 ≤ maxLen) => has_ints A6 q6 n6 (refAll us (c0 + c1 + c2)) b w' hi hn
          rw [decide_eq_false hmem] at hH
          have HH := Lib.hid hH
          have hl2 := refAll_len (us ++ [b]) (c0 + c1 + c2)
          have Hl1 := Lib.hid ht1
          have HA2 := Lib.hid (fun A' q' n' w' (hi : IntsAt w' (.slice A' n' q') (us ++ [b])) (hn : n' ≤ 100000) => refall_any A' q' n' (c0 + c1 + c2) (us ++ [b]) w' hi hn (by omega))
          have Hul := Lib.hid (show (us ++ [b]).length ≤ k + 1 from by rw [List.length_append, List.length_singleton, Hnu.out]; omega)
          clear hU hH hmem HU ht1
          generalize refAll us (c0 + c1 + c2) = l1 at *
          generalize hl2e : refAll (us ++ [b]) (c0 + c1 + c2) = l2 at *
          have Hl2e := Lib.hid hl2e
          clear hl2e
          rw [show (((c0 + c1 + c2 : Nat)) : Int) = (c0 : Int) + c1 + c2 from by simp] at HA HA2
          go_wp2_with fail
          refine HU2.out.mono ?_
          rintro e w5 ⟨rfl, F5, hm5, hF5, ho5⟩
          have Hm5 := Lib.hid hm5
          have Hr5 := Lib.hid (Hrow.out.only ho5 fun x hx hf => (Hown.out x hx).2 hf)
          have Hown5 := Lib.hid (show ∀ x, ownB (.slice Au nu qu) x → w.heap.size + 1 ≤ x ∧ ¬ F5 x from fun x hx => ⟨(Hown.out x hx).1, fun hf => (hF5 x hf).elim (Hown.out x hx).2 fun h => by have := Hrow.out.lt hx; omega⟩)
          have Ho5 := Lib.hid (Ho.out.trans (Hm.out.abv ho5))
          have Hw5 := Lib.hid ho5.size
          clear hm5 hF5 ho5 HU2
          go_wp2_with fail
          refine (HA.out _ Hr5.out.ints_at).mono ?_
          rintro e w6 ⟨v6, rfl, hv6, ho6⟩
          have Ho56 := Lib.hid ho6
          have hi6 := hv6.at
          obtain ⟨A6, q6, e6, hq6, hq7⟩ := hv6.shape
          subst e6
          have HH6 := Lib.hid (HH.out w6 A6 q6 _ hi6 (by omega))
          clear hv6 ho6 hi6 HA
          go_wp2_with fail
          refine HH6.out.mono ?_
          rintro e w7 ⟨rfl, rfl⟩
          have hR6 := Hr5.out.only (Ho56.out.alloc (.cells #[.int .i64 b] 3)) (fun _ _ => id)
          have HR6 := Lib.hid hR6
          have hone := one_src w6 (.int .i64 b) 3
          have Hone := Lib.hid hone
          have L0 := Lib.hid (show (ints us).length ≤ 1000 from by rw [ints_len, Hnu.out]; omega)
          clear hR6 hone HH6
          go_wp2_with (at_builtin; refine wpList_append_row _ rfl (.tmp 80) (.tmp 82) 23 3 rfl intInfo rfl Try.underlying23 (.slice Au nu qu) (ints us) rfl HR6.out (some ⟨w6.heap.size, 0, none⟩) 1 1 [.int .i64 b] rfl rfl Hone.out (by simp [Value.oneCell']) (by have := L0.out; simp only [List.length_singleton]; unfold maxLen; omega) (by have := L0.out; simp only [List.length_singleton]; omega) ?_
                       intro v7 w7 hrow7 hgrow7 hown7 _
                       rw [show ints us ++ [Value.int .i64 b] = ints (us ++ [b]) from (ints_app us [b]).symm] at hrow7
                       have ho67 : Only (ownB (.slice Au nu qu)) w5 w7 := ((Ho56.out.alloc (.cells #[.int .i64 b] 3)).mono (fun _ h => h.elim)).trans hgrow7
                       have Hm7 := Lib.hid (Hm5.out.only ho67 fun x hx ho => (Hown5.out x ho).2 hx)
                       have Ho7 := Lib.hid (Ho5.out.trans' ho67 fun x hx => .inl (Hown5.out x hx).1)
                       have hw56 := Ho56.out.size
                       have Hown7 := Lib.hid (show ∀ x, ownB v7 x → w.heap.size + 1 ≤ x ∧ ¬ F5 x from fun x hx => (hown7 x hx).elim (Hown5.out x) fun h => by
                         rw [World.size_alloc] at h
                         refine ⟨?_, fun hf => ?_⟩
                         · have := Hw5.out; have := Hwz.out; omega
                         · have := Hm5.out.flt hf; omega)
                       have Hr7 := Lib.hid hrow7
                       obtain ⟨A7, q7, e7, _, _⟩ := hrow7.shape
                       rw [ints_len] at e7
                       clear hrow7 hgrow7 hown7 ho67 hw56
                       generalize hn7e : (us ++ [b]).length = n7 at *
                       have Hn7 := Lib.hid hn7e
                       clear hn7e
                       subst e7)
          have h7 := Hul.out
          refine (HA2.out A7 q7 n7 _ Hr7.out.ints_at (by omega)).mono ?_
          rintro e w8 ⟨v8, rfl, hv8, ho8⟩
          have Ho78 := Lib.hid ho8
          have Hv8 := Lib.hid hv8
          obtain ⟨A8, q8, e8, hq8, hq9⟩ := hv8.shape
          have HAl := Lib.hid (all_any (w.heap.size + 1) lb F5 c0 c1 c2 l2 (m + 1) w8 (Hm7.out.keep ho8))
          clear hv8 ho8 HA2
          generalize hn8e : l2.length = n8 at *
          have Hn8 := Lib.hid hn8e
          clear hn8e
          subst e8
          go_wp2_with fail
          refine HAl.out.mono ?_
          rintro e w9 ⟨v9, rfl, hr9, _, ho9⟩
          have hS9 := same_vals v9 (.slice A8 n8 q8) l2 l2 w9 hr9.ints_at (Hv8.out.at.keep ho9 fun _ _ _ _ _ => id) (by rw [Hn8.out]; omega) (by rw [Hn8.out]; omega)
          rw [decide_eq_true rfl] at hS9
          have HS9 := Lib.hid hS9
          have Ho79 := Lib.hid (Ho78.out.trans ho9)
          have Ho89 := Lib.hid ho9
          obtain ⟨A9, q9, e9, _, _⟩ := hr9.shape
          clear hr9 ho9 hS9
          generalize (ints l2).length = n9 at *
          subst e9
          go_wp2_with fail
          refine HS9.out.mono ?_
          rintro e Z ⟨rfl, z, ez⟩
          have Ho7Z := Lib.hid (show Only Non w7 Z from by rw [← ez]; exact Ho79.out.drewN z)
          have Ho8Z := Lib.hid (show Only Non w8 Z from by rw [← ez]; exact Ho89.out.drewN z)
          clear ez
          have hMs := misses_any (w.heap.size + 1) lb F5 c0 c1 c2 l2 (m + 1) Z (Hm7.out.keep Ho7Z.out)
          rw [show (((m + 1) : Nat) : Int) = ((m : Int) + 1) from by simp] at hMs
          have HMs := Lib.hid hMs
          clear hMs
          go_wp2_with fail
          refine HMs.out.mono ?_
          rintro e Z' ⟨rfl, eZ⟩
          rw [← eZ]
          clear eZ
          have HoZ := Lib.hid (Ho7.out.trans' Ho7Z.out fun x hx => hx.elim)
          have HbZ := Lib.hid (HoZ.out.box Hb3.out (fun h => by have h' : w.heap.size + 1 ≤ w.heap.size := h; omega))
          have S0 := Lib.hid (show Z.cell? ⟨w.heap.size, 0, none⟩ = some (.int .i64 c0) from HbZ.out.cellAt rfl)
          have S1 := Lib.hid (show Z.cell? ⟨w.heap.size, 1, none⟩ = some (.int .i64 c1) from HbZ.out.cellAt rfl)
          have S2 := Lib.hid (show Z.cell? ⟨w.heap.size, 2, none⟩ = some (.int .i64 c2) from HbZ.out.cellAt rfl)
          have z0 := S0.out
          have z1 := S1.out
          have z2 := S2.out
          have HT := Lib.hid (fun t w' (ho : Only Non Z w') (ht : t < 3) => tier_at (w.heap.size + 1) lb F5 c0 c1 c2 l2 (m + 1) t w' (Hm7.out.keep (Ho7Z.out.trans ho)) ht)
          have HT0 := Lib.hid (show ∀ w', Only Non Z w' → Calls Try.prog 16 #[.pointer (some ⟨lb, 0, none⟩), .int .i64 1] w' (ClonePost (tierL c0 c1 c2 0 l2) w') from fun w' ho => HT.out 0 w' ho (by omega))
          have HT1 := Lib.hid (show ∀ w', Only Non Z w' → Calls Try.prog 16 #[.pointer (some ⟨lb, 0, none⟩), .int .i64 2] w' (ClonePost (tierL c0 c1 c2 1 l2) w') from fun w' ho => HT.out 1 w' ho (by omega))
          have HT2 := Lib.hid (show ∀ w', Only Non Z w' → Calls Try.prog 16 #[.pointer (some ⟨lb, 0, none⟩), .int .i64 3] w' (ClonePost (tierL c0 c1 c2 2 l2) w') from fun w' ho => HT.out 2 w' ho (by omega))
          have hP := fun a m w' (ho : Only Non Z w') (hm : m ≤ 1000) (ha : a ≤ 1000) => part_any A8 q8 n8 a m l2 w' (Hv8.out.at.keep (Ho8Z.out.trans ho) fun _ _ _ _ _ => id) (by omega) hm ha
          have HP0 := Lib.hid (show ∀ w', Only Non Z w' → Calls Try.prog 17 #[.slice A8 n8 q8, .int .i64 0, .int .i64 c0] w' (fun e w2 => ∃ v, e = .returned v ∧ OwnInts 3 w2 w'.heap.size v ((l2.drop (preN c0 c1 c2 0)).take (capN c0 c1 c2 0)) ∧ Only Non w' w2) from fun w' ho => hP 0 c0 w' ho (by omega) (by omega))
          have HP1 := Lib.hid (show ∀ w', Only Non Z w' → Calls Try.prog 17 #[.slice A8 n8 q8, .int .i64 c0, .int .i64 c1] w' (fun e w2 => ∃ v, e = .returned v ∧ OwnInts 3 w2 w'.heap.size v ((l2.drop (preN c0 c1 c2 1)).take (capN c0 c1 c2 1)) ∧ Only Non w' w2) from fun w' ho => by
            have := hP c0 c1 w' ho (by omega) (by omega)
            rw [show preN c0 c1 c2 1 = c0 from Nat.zero_add c0]
            exact this)
          have HP2 := Lib.hid (show ∀ w', Only Non Z w' → Calls Try.prog 17 #[.slice A8 n8 q8, .int .i64 ((c0 : Int) + c1), .int .i64 c2] w' (fun e w2 => ∃ v, e = .returned v ∧ OwnInts 3 w2 w'.heap.size v ((l2.drop (preN c0 c1 c2 2)).take (capN c0 c1 c2 2)) ∧ Only Non w' w2) from fun w' ho => by
            have := hP (c0 + c1) c2 w' ho (by omega) (by omega)
            rw [show (((c0 + c1 : Nat)) : Int) = (c0 : Int) + c1 from by simp] at this
            rw [show preN c0 c1 c2 2 = c0 + c1 from by simp [preN, capN]]
            exact this)
          have EP0 := Lib.hid (show tierL c0 c1 c2 0 l2 = (l2.drop (preN c0 c1 c2 0)).take (capN c0 c1 c2 0) from rfl)
          have EP1 := Lib.hid (show tierL c0 c1 c2 1 l2 = (l2.drop (preN c0 c1 c2 1)).take (capN c0 c1 c2 1) from rfl)
          have EP2 := Lib.hid (show tierL c0 c1 c2 2 l2 = (l2.drop (preN c0 c1 c2 2)).take (capN c0 c1 c2 2) from rfl)
          have Hl2 := Lib.hid (show l2.length ≤ 48 from by rw [Hn8.out]; omega)
          have ew : IntKind.i64.wrap ((c0 : Int) + c1) = c0 + c1 := IntWalk.i64_in _ (by omega)
          clear hP h7
          go_wp2_with fail
          refine wp_region_tail (S := fun w' => w'.cell? ⟨w.heap.size, 0, none⟩ = some (.int .i64 c0) ∧ w'.cell? ⟨w.heap.size, 1, none⟩ = some (.int .i64 c1) ∧ w'.cell? ⟨w.heap.size, 2, none⟩ = some (.int .i64 c2)) 34 (by kernel_rfl) (by kernel_rfl) ?_ ?_
          · refine ⟨?_, ?_, ?_⟩ <;> assumption
          intro hSS
          refine wpHd_take (i := 0) (v := ?_) (by kernel_rfl) rfl (by kernel_rfl) (fun _ _ _ h => h) (Or.inl ⟨by rfl, ?_⟩) (by assumption) ?_
          rotate_left
          · intro w hSw; (try dsimp only at hSw); go_simp; (try with_reducible rfl)
          try simp only [Act.put, List.getElem_toArray, List.getElem_cons_succ, List.getElem_cons_zero, List.setIfInBounds_toArray, List.set_cons_zero, List.set_cons_succ]
          refine wpHd_take (i := 2) (v := ?_) (by kernel_rfl) rfl (by kernel_rfl) (fun _ _ _ h => h) (Or.inl ⟨by rfl, ?_⟩) (by assumption) ?_
          rotate_left
          · intro w hSw; (try dsimp only at hSw); go_simp; (try with_reducible rfl)
          try simp only [Act.put, List.getElem_toArray, List.getElem_cons_succ, List.getElem_cons_zero, List.setIfInBounds_toArray, List.set_cons_zero, List.set_cons_succ]
          refine wpHd_take (i := 3) (v := ?_) (by kernel_rfl) rfl (by kernel_rfl) (fun _ _ _ h => h) (Or.inl ⟨by rfl, ?_⟩) (by assumption) ?_
          rotate_left
          · intro w hSw; (try dsimp only at hSw); go_simp; (try with_reducible rfl)
          try simp only [Act.put, List.getElem_toArray, List.getElem_cons_succ, List.getElem_cons_zero, List.setIfInBounds_toArray, List.set_cons_zero, List.set_cons_succ]
          refine wpHd_take (i := 4) (v := ?_) (by kernel_rfl) rfl (by kernel_rfl) (fun _ _ _ h => h) (Or.inl ⟨by rfl, ?_⟩) (by assumption) ?_
          rotate_left
          · intro w hSw; (try dsimp only at hSw); go_simp; (try with_reducible rfl)
          try simp only [Act.put, List.getElem_toArray, List.getElem_cons_succ, List.getElem_cons_zero, List.setIfInBounds_toArray, List.set_cons_zero, List.set_cons_succ]
          refine wpHd_one (i := 1) rfl (by kernel_rfl) (fun K hK => ?_)
          go_simp
          refine (HT0.out _ ((Only.refl Non Z).drew)).mono ?_
          rintro e x1 ⟨vx1, rfl, hr, hnn, hoo⟩
          have Hrx1 := Lib.hid hr
          have Hox1 := Lib.hid (((Only.refl Non Z).drew).trans hoo)
          obtain ⟨Ax1, qx1, ex1, _, _⟩ := hr.shape
          have s0x1 := Hox1.out.cell S0.out id
          have s1x1 := Hox1.out.cell S1.out id
          have s2x1 := Hox1.out.cell S2.out id
          clear hr hnn hoo
          generalize (ints (tierL c0 c1 c2 0 l2)).length = nx1 at *
          subst ex1
          refine hK.out _ _ ?_ (fun hSS => ?_)
          · refine ⟨?_, ?_, ?_⟩ <;> assumption
          clear hK
          try simp only [Act.put, List.getElem_toArray, List.getElem_cons_succ, List.getElem_cons_zero, List.setIfInBounds_toArray, List.set_cons_zero, List.set_cons_succ]
          refine wpHd_one (i := 5) rfl (by kernel_rfl) (fun K hK => ?_)
          go_simp
          refine (HP0.out _ (Hox1.out)).mono ?_
          rintro e x2 ⟨vx2, rfl, hr, hoo⟩
          have HSx2 := Lib.hid (same_vals _ _ (tierL c0 c1 c2 0 l2) _ x2 (Hrx1.out.only hoo fun _ _ => id).ints_at hr.at (Nat.le_trans (tierL_le c0 c1 c2 0 l2) (by have := Hl2.out; omega)) (by rw [← EP0.out]; exact Nat.le_trans (tierL_le c0 c1 c2 0 l2) (by have := Hl2.out; omega)))
          rw [decide_eq_true EP0.out] at HSx2
          have Hox2 := Lib.hid ((Hox1.out).trans hoo)
          obtain ⟨Ax2, qx2, ex2, _, _⟩ := hr.shape
          have s0x2 := Hox2.out.cell S0.out id
          have s1x2 := Hox2.out.cell S1.out id
          have s2x2 := Hox2.out.cell S2.out id
          clear hr hoo
          generalize (List.take (capN c0 c1 c2 0) (List.drop (preN c0 c1 c2 0) l2)).length = nx2 at *
          subst ex2
          refine hK.out _ _ ?_ (fun hSS => ?_)
          · refine ⟨?_, ?_, ?_⟩ <;> assumption
          clear hK
          try simp only [Act.put, List.getElem_toArray, List.getElem_cons_succ, List.getElem_cons_zero, List.setIfInBounds_toArray, List.set_cons_zero, List.set_cons_succ]
          refine wpHd_one (i := 6) rfl (by kernel_rfl) (fun K hK => ?_)
          go_simp
          refine HSx2.out.mono ?_
          rintro e x3 ⟨rfl, z, ez⟩
          have Hox3 := Lib.hid (show Only Non Z x3 from by rw [← ez]; exact Hox2.out.drewN z)
          clear ez
          have s0x3 := Hox3.out.cell S0.out id
          have s1x3 := Hox3.out.cell S1.out id
          have s2x3 := Hox3.out.cell S2.out id
          refine hK.out _ _ ?_ (fun hSS => ?_)
          · refine ⟨?_, ?_, ?_⟩ <;> assumption
          clear hK
          try simp only [Act.put, List.getElem_toArray, List.getElem_cons_succ, List.getElem_cons_zero, List.setIfInBounds_toArray, List.set_cons_zero, List.set_cons_succ]
          refine wpHd_take (i := 7) (v := ?_) (by kernel_rfl) rfl (by kernel_rfl) (fun _ _ _ h => h) (Or.inl ⟨by rfl, ?_⟩) (by assumption) ?_
          rotate_left
          · intro w hSw; (try dsimp only at hSw); go_simp; (try with_reducible rfl)
          try simp only [Act.put, List.getElem_toArray, List.getElem_cons_succ, List.getElem_cons_zero, List.setIfInBounds_toArray, List.set_cons_zero, List.set_cons_succ]
          refine wpHd_take (i := 8) (v := ?_) (by kernel_rfl) rfl (by kernel_rfl) (fun _ _ _ h => h) (Or.inl ⟨by rfl, ?_⟩) (by assumption) ?_
          rotate_left
          · intro w hSw; (try dsimp only at hSw); go_simp; (try with_reducible rfl)
          try simp only [Act.put, List.getElem_toArray, List.getElem_cons_succ, List.getElem_cons_zero, List.setIfInBounds_toArray, List.set_cons_zero, List.set_cons_succ]
          refine wpHd_take (i := 9) (v := ?_) (by kernel_rfl) rfl (by kernel_rfl) (fun _ _ _ h => h) (Or.inl ⟨by rfl, ?_⟩) (by assumption) ?_
          rotate_left
          · intro w hSw; (try dsimp only at hSw); go_simp; (try with_reducible rfl)
          try simp only [Act.put, List.getElem_toArray, List.getElem_cons_succ, List.getElem_cons_zero, List.setIfInBounds_toArray, List.set_cons_zero, List.set_cons_succ]
          refine wpHd_take (i := 11) (v := ?_) (by kernel_rfl) rfl (by kernel_rfl) (fun _ _ _ h => h) (Or.inl ⟨by rfl, ?_⟩) (by assumption) ?_
          rotate_left
          · intro w hSw; (try dsimp only at hSw); go_simp; (try with_reducible rfl)
          try simp only [Act.put, List.getElem_toArray, List.getElem_cons_succ, List.getElem_cons_zero, List.setIfInBounds_toArray, List.set_cons_zero, List.set_cons_succ]
          refine wpHd_take (i := 12) (v := ?_) (by kernel_rfl) rfl (by kernel_rfl) (fun _ _ _ h => h) (Or.inl ⟨by rfl, ?_⟩) (by assumption) ?_
          rotate_left
          · intro w hSw; (try dsimp only at hSw); go_simp; (try with_reducible rfl)
          try simp only [Act.put, List.getElem_toArray, List.getElem_cons_succ, List.getElem_cons_zero, List.setIfInBounds_toArray, List.set_cons_zero, List.set_cons_succ]
          refine wpHd_take (i := 13) (v := ?_) (by kernel_rfl) rfl (by kernel_rfl) (fun _ _ _ h => h) (Or.inl ⟨by rfl, ?_⟩) (by assumption) ?_
          rotate_left
          · intro w hSw; (try dsimp only at hSw); go_simp; (try with_reducible rfl)
          try simp only [Act.put, List.getElem_toArray, List.getElem_cons_succ, List.getElem_cons_zero, List.setIfInBounds_toArray, List.set_cons_zero, List.set_cons_succ]
          refine wpHd_take (i := 14) (v := ?_) (by kernel_rfl) rfl (by kernel_rfl) (fun _ _ _ h => h) (Or.inl ⟨by rfl, ?_⟩) (by assumption) ?_
          rotate_left
          · intro w hSw; (try dsimp only at hSw); go_simp; (try with_reducible rfl)
          try simp only [Act.put, List.getElem_toArray, List.getElem_cons_succ, List.getElem_cons_zero, List.setIfInBounds_toArray, List.set_cons_zero, List.set_cons_succ]
          refine wpHd_take (i := 15) (v := ?_) (by kernel_rfl) rfl (by kernel_rfl) (fun _ _ _ h => h) (Or.inl ⟨by rfl, ?_⟩) (by assumption) ?_
          rotate_left
          · intro w hSw; (try dsimp only at hSw); go_simp; (try with_reducible rfl)
          try simp only [Act.put, List.getElem_toArray, List.getElem_cons_succ, List.getElem_cons_zero, List.setIfInBounds_toArray, List.set_cons_zero, List.set_cons_succ]
          refine wpHd_one (i := 10) rfl (by kernel_rfl) (fun K hK => ?_)
          go_simp
          refine (HT1.out _ (Hox3.out)).mono ?_
          rintro e x4 ⟨vx4, rfl, hr, hnn, hoo⟩
          have Hrx4 := Lib.hid hr
          have Hox4 := Lib.hid ((Hox3.out).trans hoo)
          obtain ⟨Ax4, qx4, ex4, _, _⟩ := hr.shape
          have s0x4 := Hox4.out.cell S0.out id
          have s1x4 := Hox4.out.cell S1.out id
          have s2x4 := Hox4.out.cell S2.out id
          clear hr hnn hoo
          generalize (ints (tierL c0 c1 c2 1 l2)).length = nx4 at *
          subst ex4
          refine hK.out _ _ ?_ (fun hSS => ?_)
          · refine ⟨?_, ?_, ?_⟩ <;> assumption
          clear hK
          try simp only [Act.put, List.getElem_toArray, List.getElem_cons_succ, List.getElem_cons_zero, List.setIfInBounds_toArray, List.set_cons_zero, List.set_cons_succ]
          refine wpHd_one (i := 16) rfl (by kernel_rfl) (fun K hK => ?_)
          go_simp
          refine (HP1.out _ (Hox4.out)).mono ?_
          rintro e x5 ⟨vx5, rfl, hr, hoo⟩
          have HSx5 := Lib.hid (same_vals _ _ (tierL c0 c1 c2 1 l2) _ x5 (Hrx4.out.only hoo fun _ _ => id).ints_at hr.at (Nat.le_trans (tierL_le c0 c1 c2 1 l2) (by have := Hl2.out; omega)) (by rw [← EP1.out]; exact Nat.le_trans (tierL_le c0 c1 c2 1 l2) (by have := Hl2.out; omega)))
          rw [decide_eq_true EP1.out] at HSx5
          have Hox5 := Lib.hid ((Hox4.out).trans hoo)
          obtain ⟨Ax5, qx5, ex5, _, _⟩ := hr.shape
          have s0x5 := Hox5.out.cell S0.out id
          have s1x5 := Hox5.out.cell S1.out id
          have s2x5 := Hox5.out.cell S2.out id
          clear hr hoo
          generalize (List.take (capN c0 c1 c2 1) (List.drop (preN c0 c1 c2 1) l2)).length = nx5 at *
          subst ex5
          refine hK.out _ _ ?_ (fun hSS => ?_)
          · refine ⟨?_, ?_, ?_⟩ <;> assumption
          clear hK
          try simp only [Act.put, List.getElem_toArray, List.getElem_cons_succ, List.getElem_cons_zero, List.setIfInBounds_toArray, List.set_cons_zero, List.set_cons_succ]
          refine wpHd_one (i := 17) rfl (by kernel_rfl) (fun K hK => ?_)
          go_simp
          refine HSx5.out.mono ?_
          rintro e x6 ⟨rfl, z, ez⟩
          have Hox6 := Lib.hid (show Only Non Z x6 from by rw [← ez]; exact Hox5.out.drewN z)
          clear ez
          have s0x6 := Hox6.out.cell S0.out id
          have s1x6 := Hox6.out.cell S1.out id
          have s2x6 := Hox6.out.cell S2.out id
          refine hK.out _ _ ?_ (fun hSS => ?_)
          · refine ⟨?_, ?_, ?_⟩ <;> assumption
          clear hK
          try simp only [Act.put, List.getElem_toArray, List.getElem_cons_succ, List.getElem_cons_zero, List.setIfInBounds_toArray, List.set_cons_zero, List.set_cons_succ]
          refine wpHd_take (i := 18) (v := ?_) (by kernel_rfl) rfl (by kernel_rfl) (fun _ _ _ h => h) (Or.inl ⟨by rfl, ?_⟩) (by assumption) ?_
          rotate_left
          · intro w hSw; (try dsimp only at hSw); go_simp; (try with_reducible rfl)
          try simp only [Act.put, List.getElem_toArray, List.getElem_cons_succ, List.getElem_cons_zero, List.setIfInBounds_toArray, List.set_cons_zero, List.set_cons_succ]
          refine wpHd_take (i := 19) (v := ?_) (by kernel_rfl) rfl (by kernel_rfl) (fun _ _ _ h => h) (Or.inl ⟨by rfl, ?_⟩) (by assumption) ?_
          rotate_left
          · intro w hSw; (try dsimp only at hSw); go_simp; (try with_reducible rfl)
          try simp only [Act.put, List.getElem_toArray, List.getElem_cons_succ, List.getElem_cons_zero, List.setIfInBounds_toArray, List.set_cons_zero, List.set_cons_succ]
          refine wpHd_take (i := 20) (v := ?_) (by kernel_rfl) rfl (by kernel_rfl) (fun _ _ _ h => h) (Or.inl ⟨by rfl, ?_⟩) (by assumption) ?_
          rotate_left
          · intro w hSw; (try dsimp only at hSw); go_simp; (try with_reducible rfl)
          try simp only [Act.put, List.getElem_toArray, List.getElem_cons_succ, List.getElem_cons_zero, List.setIfInBounds_toArray, List.set_cons_zero, List.set_cons_succ]
          refine wpHd_take (i := 21) (v := ?_) (by kernel_rfl) rfl (by kernel_rfl) (fun _ _ _ h => h) (Or.inl ⟨by rfl, ?_⟩) (by assumption) ?_
          rotate_left
          · intro w hSw; (try dsimp only at hSw); go_simp; (try with_reducible rfl)
          try simp only [Act.put, List.getElem_toArray, List.getElem_cons_succ, List.getElem_cons_zero, List.setIfInBounds_toArray, List.set_cons_zero, List.set_cons_succ]
          refine wpHd_take (i := 23) (v := ?_) (by kernel_rfl) rfl (by kernel_rfl) (fun _ _ _ h => h) (Or.inl ⟨by rfl, ?_⟩) (by assumption) ?_
          rotate_left
          · intro w hSw; (try dsimp only at hSw); go_simp; (try with_reducible rfl)
          try simp only [Act.put, List.getElem_toArray, List.getElem_cons_succ, List.getElem_cons_zero, List.setIfInBounds_toArray, List.set_cons_zero, List.set_cons_succ]
          refine wpHd_take (i := 24) (v := ?_) (by kernel_rfl) rfl (by kernel_rfl) (fun _ _ _ h => h) (Or.inl ⟨by rfl, ?_⟩) (by assumption) ?_
          rotate_left
          · intro w hSw; (try dsimp only at hSw); go_simp; (try with_reducible rfl)
          try simp only [Act.put, List.getElem_toArray, List.getElem_cons_succ, List.getElem_cons_zero, List.setIfInBounds_toArray, List.set_cons_zero, List.set_cons_succ]
          refine wpHd_take (i := 25) (v := ?_) (by kernel_rfl) rfl (by kernel_rfl) (fun _ _ _ h => h) (Or.inl ⟨by rfl, ?_⟩) (by assumption) ?_
          rotate_left
          · intro w hSw; (try dsimp only at hSw); go_simp; (try with_reducible rfl)
          try simp only [Act.put, List.getElem_toArray, List.getElem_cons_succ, List.getElem_cons_zero, List.setIfInBounds_toArray, List.set_cons_zero, List.set_cons_succ]
          refine wpHd_take (i := 26) (v := ?_) (by kernel_rfl) rfl (by kernel_rfl) (fun _ _ _ h => h) (Or.inl ⟨by rfl, ?_⟩) (by assumption) ?_
          rotate_left
          · intro w hSw; (try dsimp only at hSw); go_simp; (try with_reducible rfl)
          try simp only [Act.put, List.getElem_toArray, List.getElem_cons_succ, List.getElem_cons_zero, List.setIfInBounds_toArray, List.set_cons_zero, List.set_cons_succ]
          refine wpHd_take (i := 27) (v := ?_) (by kernel_rfl) rfl (by kernel_rfl) (fun _ _ _ h => h) (Or.inl ⟨by rfl, ?_⟩) (by assumption) ?_
          rotate_left
          · intro w hSw; (try dsimp only at hSw); go_simp; (try with_reducible rfl)
          try simp only [Act.put, List.getElem_toArray, List.getElem_cons_succ, List.getElem_cons_zero, List.setIfInBounds_toArray, List.set_cons_zero, List.set_cons_succ]
          refine wpHd_take (i := 28) (v := ?_) (by kernel_rfl) rfl (by kernel_rfl) (fun _ _ _ h => h) (Or.inl ⟨by rfl, ?_⟩) (by assumption) ?_
          rotate_left
          · intro w hSw; (try dsimp only at hSw); go_simp; (try with_reducible rfl)
          try simp only [Act.put, List.getElem_toArray, List.getElem_cons_succ, List.getElem_cons_zero, List.setIfInBounds_toArray, List.set_cons_zero, List.set_cons_succ]
          refine wpHd_take (i := 29) (v := ?_) (by kernel_rfl) rfl (by kernel_rfl) (fun _ _ _ h => h) (Or.inl ⟨by rfl, ?_⟩) (by assumption) ?_
          rotate_left
          · intro w hSw; (try dsimp only at hSw); go_simp; (try with_reducible rfl)
          try simp only [Act.put, List.getElem_toArray, List.getElem_cons_succ, List.getElem_cons_zero, List.setIfInBounds_toArray, List.set_cons_zero, List.set_cons_succ]
          refine wpHd_take (i := 30) (v := ?_) (by kernel_rfl) rfl (by kernel_rfl) (fun _ _ _ h => h) (Or.inl ⟨by rfl, ?_⟩) (by assumption) ?_
          rotate_left
          · intro w hSw; (try dsimp only at hSw); go_simp; (try with_reducible rfl)
          try simp only [Act.put, List.getElem_toArray, List.getElem_cons_succ, List.getElem_cons_zero, List.setIfInBounds_toArray, List.set_cons_zero, List.set_cons_succ]
          refine wpHd_one (i := 22) rfl (by kernel_rfl) (fun K hK => ?_)
          go_simp
          refine (HT2.out _ (Hox6.out)).mono ?_
          rintro e x7 ⟨vx7, rfl, hr, hnn, hoo⟩
          have Hrx7 := Lib.hid hr
          have Hox7 := Lib.hid ((Hox6.out).trans hoo)
          obtain ⟨Ax7, qx7, ex7, _, _⟩ := hr.shape
          have s0x7 := Hox7.out.cell S0.out id
          have s1x7 := Hox7.out.cell S1.out id
          have s2x7 := Hox7.out.cell S2.out id
          clear hr hnn hoo
          generalize (ints (tierL c0 c1 c2 2 l2)).length = nx7 at *
          subst ex7
          refine hK.out _ _ ?_ (fun hSS => ?_)
          · refine ⟨?_, ?_, ?_⟩ <;> assumption
          clear hK
          try simp only [Act.put, List.getElem_toArray, List.getElem_cons_succ, List.getElem_cons_zero, List.setIfInBounds_toArray, List.set_cons_zero, List.set_cons_succ]
          refine wpHd_one (i := 31) rfl (by kernel_rfl) (fun K hK => ?_)
          go_simp
          refine (HP2.out _ (Hox7.out)).mono ?_
          rintro e x8 ⟨vx8, rfl, hr, hoo⟩
          have HSx8 := Lib.hid (same_vals _ _ (tierL c0 c1 c2 2 l2) _ x8 (Hrx7.out.only hoo fun _ _ => id).ints_at hr.at (Nat.le_trans (tierL_le c0 c1 c2 2 l2) (by have := Hl2.out; omega)) (by rw [← EP2.out]; exact Nat.le_trans (tierL_le c0 c1 c2 2 l2) (by have := Hl2.out; omega)))
          rw [decide_eq_true EP2.out] at HSx8
          have Hox8 := Lib.hid ((Hox7.out).trans hoo)
          obtain ⟨Ax8, qx8, ex8, _, _⟩ := hr.shape
          have s0x8 := Hox8.out.cell S0.out id
          have s1x8 := Hox8.out.cell S1.out id
          have s2x8 := Hox8.out.cell S2.out id
          clear hr hoo
          generalize (List.take (capN c0 c1 c2 2) (List.drop (preN c0 c1 c2 2) l2)).length = nx8 at *
          subst ex8
          refine hK.out _ _ ?_ (fun hSS => ?_)
          · refine ⟨?_, ?_, ?_⟩ <;> assumption
          clear hK
          try simp only [Act.put, List.getElem_toArray, List.getElem_cons_succ, List.getElem_cons_zero, List.setIfInBounds_toArray, List.set_cons_zero, List.set_cons_succ]
          refine wpHd_one (i := 32) rfl (by kernel_rfl) (fun K hK => ?_)
          go_simp
          refine HSx8.out.mono ?_
          rintro e x9 ⟨rfl, z, ez⟩
          have Hox9 := Lib.hid (show Only Non Z x9 from by rw [← ez]; exact Hox8.out.drewN z)
          clear ez
          have s0x9 := Hox9.out.cell S0.out id
          have s1x9 := Hox9.out.cell S1.out id
          have s2x9 := Hox9.out.cell S2.out id
          refine hK.out _ _ ?_ (fun hSS => ?_)
          · refine ⟨?_, ?_, ?_⟩ <;> assumption
          clear hK
          try simp only [Act.put, List.getElem_toArray, List.getElem_cons_succ, List.getElem_cons_zero, List.setIfInBounds_toArray, List.set_cons_zero, List.set_cons_succ]
          refine wpHd_take (i := 33) (v := ?_) (by kernel_rfl) rfl (by kernel_rfl) (fun _ _ _ h => h) (Or.inl ⟨by rfl, ?_⟩) (by assumption) ?_
          rotate_left
          · intro w hSw; (try dsimp only at hSw); go_simp; (try with_reducible rfl)
          try simp only [Act.put, List.getElem_toArray, List.getElem_cons_succ, List.getElem_cons_zero, List.setIfInBounds_toArray, List.set_cons_zero, List.set_cons_succ]
          refine wpHd_end (by kernel_rfl) ?_
          clear hSS
          go_wp2_with fail
          refine ⟨?_, by simp [intOf]; omega⟩
          exact ⟨k + 1, us ++ [b], (m + 1), F5, by omega, by simp, by simp, by omega, Nat.le_trans (Nat.le_of_eq Hn7.out) Hul.out, by rw [Hl2e.out]; exact Hm7.out.keep (Ho7Z.out.trans Hox9.out), Hr7.out.only (Ho7Z.out.trans Hox9.out) (fun _ _ => id), Hown7.out, HoZ.out.trans' Hox9.out fun x hx => hx.elim⟩
    · have Ho := Lib.hid ho
      have HT0 := Lib.hid (fun w => tier_out lb 0 w (by omega))
      have HT4 := Lib.hid (fun w => tier_out lb 4 w (by omega))
      clear hm ho hrow hown
      go_wp2_with fail
      refine (HT0.out _).mono ?_
      rintro e w5 ⟨rfl, rfl⟩
      go_wp2_with fail
      refine (HT4.out _).mono ?_
      rintro e w5 ⟨rfl, rfl⟩
      go_wp2_with fail
      go_ret
      exact ⟨rfl, Ho3.out.trans' Ho.out fun b hb => .inr (by have hb' : w.heap.size + 1 ≤ b := hb; omega)⟩
theorem modelUses_skip (c0 c1 c2 : Int) (A : Option Addr) (n c : Nat) (w : World) (hn : 200 < n) (hm : n ≤ maxLen) :
    Calls Try.prog 3 #[.agg #[.int .i64 c0, .int .i64 c1, .int .i64 c2], .slice A n c] w (Ret (.bool true) Non w) := by
  have HW := Lib.hid (fun w => mwakes w)
  have hal : Only Non w (w.alloc (.cells #[.int .i64 c0, .int .i64 c1, .int .i64 c2] 22)) := (Only.refl _ _).alloc _
  have Hal := Lib.hid hal
  have h2 : 200 < (n : Int) := by omega
  unfold maxLen at hm
  clear hal
  go_enter Try.func3, Try.ntmps3
  go_wp2_with fail
  generalize w.alloc (.cells #[.int .i64 c0, .int .i64 c1, .int .i64 c2] 22) = W at *
  refine (HW.out _).mono ?_
  rintro e w1 ⟨rfl, ho⟩
  have Ho1 := Lib.hid (Hal.out.trans ho)
  clear ho
  go_wp2_with fail
  go_ret
  exact ⟨rfl, Ho1.out⟩
end
end Go.Proofs.Ytpfegioooibjlaa
