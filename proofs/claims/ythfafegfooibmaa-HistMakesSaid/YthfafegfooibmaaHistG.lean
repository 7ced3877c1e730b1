/- Linear; the document's Long. -/
import Derived.Test.YthfafegfooibmaaHistF
namespace Go.Proofs.Ythfafegfooibmaa
open Go.RowKit Go.ChangeShapes Go.WideShapes
set_option linter.unusedVariables false
set_option linter.unusedSimpArgs false
def leI (x y : Int) : Bool := decide (x ≤ y)
theorem sort_own {w : World} {base : Nat} {v : Value} {zs : List Int} (h : OwnInts 3 w base v zs) (hl : zs.length ≤ 1000000) :
    Calls Try.prog 11 #[v] w fun e w' => e = .returned (.tuple #[]) ∧ OwnInts 3 w' base v (zs.mergeSort fun x y => decide (x ≤ y)) ∧ Only (ownB v) w w' := by
  have hlen : (zs.mergeSort fun x y => decide (x ≤ y)).length = zs.length := List.length_mergeSort _
  have h' := h
  rcases h.2 with ⟨rfl, h0⟩ | ⟨g, cap, cur, rfl, hb, hg, hn, hm, hs, ht⟩
  · refine (sh_Sort_int_none none 0 w).mono ?_
    rintro e w' ⟨rfl, rfl⟩
    have hz : zs = [] := List.eq_nil_of_length_eq_zero h0
    subst hz
    exact ⟨rfl, by simpa using OwnInts.nil _ _ _, Only.refl _ _⟩
  · rw [Nat.mul_one] at ht
    refine (sh_Sort_int g 0 cap zs w (holds_of_blockI hg ht) (Array.getElem?_eq_some_iff.1 hg).1 (by omega)).mono ?_
    rintro e w' ⟨rfl, n, os, rfl⟩
    refine ⟨rfl, ?_, (Only.of_grown (grownBy_sortedI _)).mono fun b hb => .inl (ownB_slice.2 (show g = b from (show b = g from hb).symm))⟩
    unfold OwnInts
    rw [hlen]
    exact ownsRow_sortedI hlen hb hg hn hm hs
theorem compact_le (zs : List Int) : (Lib.compact zs).length ≤ zs.length := by
  unfold Lib.compact Lib.compactUpTo
  rw [List.length_map]
  exact Nat.le_trans (List.length_filter_le _ _) (by rw [List.length_range]; exact Nat.le_refl _)
theorem compact_own {w : World} {base : Nat} {v : Value} {zs : List Int} (h : OwnInts 3 w base v zs) (hl : zs.length ≤ 1000000) :
    Calls Try.prog 12 #[v] w fun e w' => ∃ v', e = .returned v' ∧ IntsAt w' v' (Lib.compact zs) ∧ Only (ownB v) w w' := by
  rcases h.2 with ⟨rfl, h0⟩ | ⟨g, cap, cur, rfl, hb, hg, hn, hm, hs, ht⟩
  · refine (sh_Compact_int_empty none 0 w).mono ?_
    rintro e w' ⟨rfl, rfl⟩
    have hz : zs = [] := List.eq_nil_of_length_eq_zero h0
    subst hz
    exact ⟨_, rfl, ⟨none, 0, rfl, Nat.le_refl _, Nat.zero_le _, fun i hi => absurd hi (Nat.not_lt_zero _)⟩, Only.refl _ _⟩
  · rw [Nat.mul_one] at ht
    have hH := holds_of_blockI hg ht
    refine (sh_Compact_int g 0 cap zs w hH (by omega) hn).mono ?_
    rintro e w' ⟨rfl, n, rfl⟩
    have hcl := compact_le zs
    refine ⟨_, rfl, ⟨_, cap, rfl, Nat.le_trans hcl hn, hm, fun i hi => ⟨g, 0, rfl, ?_⟩⟩, ?_⟩
    · rw [Sort.cell?_putRow _ _ _ _ zs.toArray _ (Sort.holds_ahead _ _ _ _ _ _ hH) (by simp; omega) i (by simp; omega)]
      simp [getElem!_pos, hi, List.getElem_append_left, show i < (Lib.compact zs).length + (zs.length - (Lib.compact zs).length) by omega]
    · have h1 := grownBy_sortedI (w := w) (g := g) (n := n) (os := #[]) (Lib.compact zs ++ List.replicate (zs.length - (Lib.compact zs).length) 0).toArray
      rw [Sort.grow_empty] at h1
      exact (Only.of_grown h1).mono fun b hb => .inl (ownB_slice.2 (show g = b from (show b = g from hb).symm))
def LiRel (l : List DoneR) (w : World) (b i : Value) (wr : World) : Prop := ∃ k : Nat, k ≤ l.length ∧ i = .int .i64 k ∧ OwnInts 3 wr w.heap.size b ((l.take k).map DoneR.block) ∧ Only Non w wr
def LjRel (l : List DoneR) (size : Int) (bs : List Int) (w W : World) (R : Bool × Int) (isv i : Value) (wr : World) : Prop :=
  ∃ (k : Nat) (is : Bool), k ≤ bs.length ∧ i = .int .i64 k ∧ isv = .bool is ∧ linLoop l size (bs.drop k) is = R ∧ Only Non W wr
def LiPost (r : Bool × Int) (w : World) (e : Ending) (w' : World) : Prop := e = .returned (.tuple #[.bool r.1, .int .i64 r.2]) ∧ Only Non w w'
section
set_option maxHeartbeats 4000000
set_option maxRecDepth 100000
theorem linear_bad (A : Option Addr) (n c : Nat) (l : List DoneR) (size : Int) (w : World) (hs : size < 1 ∨ 16 < size) : Calls Try.prog 9 #[.slice A n c, .int .i64 size] w (LiPost (linD l size) w) := by
  have hc : linD l size = (false, 6) := by unfold linD; rw [if_pos hs]
  rw [hc]
  clear hc
  by_cases h1 : size < 1
  · clear hs
    go_enter Try.func9, Try.ntmps9
    go_wp2
    go_ret2
    exact ⟨rfl, Only.refl _ _⟩
  · have h2 : size > 16 := by omega
    clear hs
    go_enter Try.func9, Try.ntmps9
    go_wp2
    go_ret2
    exact ⟨rfl, Only.refl _ _⟩
theorem linear_any (A : Option Addr) (c : Nat) (l : List DoneR) (size : Nat) (w : World) (h : DonesAt w A l.length c l) (hl : l.length ≤ 100000) (hs1 : 1 ≤ size) (hs2 : size ≤ 16) :
    Calls Try.prog 9 #[.slice A l.length c, .int .i64 size] w (LiPost (linD l size) w) := by
  have hcap := h.cap
  have hmax := h.max
  have H := Lib.hid h
  have Hl := Lib.hid hl
  have e1 : ¬ (size : Int) < 1 := by omega
  have e2 : ¬ (size : Int) > 16 := by omega
  clear h
  go_enter Try.func9, Try.ntmps9
  go_wp2_with fail
  go_loopw [6, 22] (fun b i wr => LiRel l w b i wr) (fun _ i _ => l.length - (intOf i).toNat)
  case atStart => exact ⟨0, Nat.zero_le _, rfl, OwnInts.nil _ _ _, Only.refl _ _⟩
  case round =>
    obtain ⟨k, hk, rfl, hown, ho⟩ := hrel
    have hll : ((l.take k).map DoneR.block).length = k := by simp; omega
    obtain ⟨Aa, ca, rfl, hac, ham⟩ := hown.shape
    rw [hll] at hown hac ⊢
    have HO := Lib.hid ho
    by_cases hlt : k < l.length
    · obtain ⟨g, o, dA, dc, eA, hg, hcells, hby⟩ := (H.out.keep HO.out).at_ k hlt
      subst eA
      obtain ⟨d0, d1, d2, d3, d4, d5, d6, d7, d8, d9⟩ := tenAt hcells
      have hbn : (l.take (k + 1)).map DoneR.block = (l.take k).map DoneR.block ++ [(l.getD k default).block] := by
        rw [List.take_add_one, List.map_append]
        simp [hlt]
      have Hbn := Lib.hid hbn
      have HW := Lib.hid hown
      have Hll := Lib.hid hll
      clear hcells hby hbn hown ho hll
      generalize hod : l.getD k default = od at *
      clear hod
      have hki : (k : Int) < l.length := by omega
      have Hlt := Lib.hid hlt
      clear hlt
      go_upto_region 7 with (refine wpList_store_row rfl 33 _ _ rfl wr.heap.size (doneC od (.slice dA od.data.length dc)) rfl rfl 33 _ (Box.fresh wr 33 zD) (by kernel_rfl) rfl (done_one od dA od.data.length dc) ?_)
      have ho1 : Only Non wr ((wr.alloc (.cells zD 33)).setRow wr.heap.size (doneC od (.slice dA od.data.length dc))) := ((Only.refl Non wr).alloc _).setRow' (.inr (Nat.le_refl _)) _
      have HY := Lib.hid ((Box.fresh wr 33 zD).setRow' (doneC od (.slice dA od.data.length dc)))
      change Code.wp _ _ _ _ ((wr.alloc (.cells zD 33)).setRow wr.heap.size (doneC od (.slice dA od.data.length dc)))
      generalize (wr.alloc (.cells zD 33)).setRow wr.heap.size (doneC od (.slice dA od.data.length dc)) = W1 at *
      have HW1 := Lib.hid (HW.out.only ho1 fun _ _ => id)
      have HO1 := Lib.hid (HO.out.trans ho1)
      clear ho1 d0 d1 d2 d3 d4 d5 d6 d7 d8 d9 HW HO
      generalize wr.heap.size = yb at *
      have y4 : W1.cell? ⟨yb, 4, none⟩ = some (.int .i64 od.block) := HY.out.ten.2.2.2.2.1
      go_wp2_with (first
        | (at_builtin
           refine wpList_push (W1.alloc (.cells #[.int .i64 od.block] 3)) rfl _ _ 28 3 rfl intInfo rfl Try.underlying28 w.heap.size (.slice Aa k ca) k (((l.take k).map DoneR.block).map (Value.int .i64)) (.int .i64 od.block) rfl (by have h := World.ownsRow.alloc HW1.out (.cells #[.int .i64 od.block] 3); rwa [Hll.out] at h) ⟨W1.heap.size, 0, none⟩ rfl ((Box.fresh W1 3 #[.int .i64 od.block]).cellAt rfl) rfl (by have := Hlt.out; have := Hl.out; unfold maxLen; omega) (by have := Hlt.out; have := Hl.out; omega) (by have := HO1.out.size; rw [World.size_alloc]; omega) ?_
           intro v3 W3 hown3 ho3 hbl3)
        | fail)
      have HO3 := (HO1.out.alloc (.cells #[.int .i64 od.block] 3)).trans' ho3 fun b hb => .inr (HW1.out.lt b hb).1
      have hown' : OwnInts 3 W3 w.heap.size v3 ((l.take (k + 1)).map DoneR.block) := by
        rw [Hbn.out]
        unfold OwnInts
        rw [List.length_append, List.map_append, Hll.out]
        exact hown3
      exact ⟨⟨k + 1, Hlt.out, by simp, hown', HO3⟩, by have := Hlt.out; simp [intOf]; omega⟩
    · obtain rfl : k = l.length := by omega
      rw [List.take_length] at hown
      have hbl : (l.map DoneR.block).length = l.length := List.length_map _
      have HS := Lib.hid (sort_own hown (by rw [hbl]; omega))
      have HX := Lib.hid fun k hk => (hown.lt k hk).1
      have Hbl := Lib.hid hbl
      clear hown ho hll hbl hlt
      go_wp2_with fail
      refine HS.out.mono ?_
      rintro e W5 ⟨rfl, hown5, ho5⟩
      have HO5 := Lib.hid (HO.out.trans' ho5 fun b hb => .inr (HX.out b hb))
      have HC := Lib.hid (compact_own hown5 (by rw [List.length_mergeSort, Hbl.out]; have := Hl.out; omega))
      clear hown5 ho5
      go_wp2_with fail
      refine HC.out.mono ?_
      rintro e W6 ⟨v6, rfl, hint, ho6⟩
      have HO6 := Lib.hid (HO5.out.trans' ho6 fun b hb => .inr (HX.out b hb))
      have hR : linLoop l size (Lib.compact ((l.map DoneR.block).mergeSort fun x y => decide (x ≤ y))) true = linD l size :=
        lin_blocks l (by omega) (by omega) fun b => by rw [mem_compact', List.mem_mergeSort]
      generalize linD l size = R at *
      generalize Lib.compact ((l.map DoneR.block).mergeSort fun x y => decide (x ≤ y)) = bs at *
      have HI := Lib.hid hint
      have HR := Lib.hid hR
      obtain ⟨B, cb, rfl, hbc, hbm, hci⟩ := hint
      unfold maxLen at hbm
      clear ho6 hci hR HS HC HX
      go_wp2_with fail
      go_loopw [9, 37] (fun b i wr => LjRel l size bs w W6 R b i wr) (fun _ i _ => bs.length - (intOf i).toNat)
      case atStart => exact ⟨0, true, Nat.zero_le _, rfl, rfl, HR.out, Only.refl _ _⟩
      case round =>
        obtain ⟨k, is, hk, rfl, rfl, hr, ho⟩ := hrel
        have HO7 := Lib.hid ho
        clear ho
        by_cases hlt : k < bs.length
        · obtain ⟨g, o, eB, hc⟩ := (HI.out.keep HO7.out fun _ _ _ _ _ => id).cellAt hlt
          subst eB
          rw [List.drop_eq_getElem_cons hlt, linLoop] at hr
          have hbk : bs[k] = bs.getD k 0 := by simp [hlt]
          rw [hbk] at hr
          generalize bs.getD k 0 = b at *
          have hki : (k : Int) < bs.length := by omega
          have HD := order_any A c l b size wr (H.out.keep (HO6.out.trans HO7.out)) Hl.out hs1 hs2
          have Hlt := Lib.hid hlt
          clear hbk hlt
          rcases code_cases l (block := b) (size := size) (by omega) (by omega) with hcq | hcq | hcq
          · rw [hcq] at HD
            rw [if_neg (by rw [hcq]; decide)] at hr
            have HD := Lib.hid HD
            have Hr := Lib.hid (show linLoop l size (bs.drop (k + 1)) is = R from by rw [← hr, hcq]; simp)
            clear hcq hr
            go_wp2_with fail
            refine HD.out.mono ?_
            rintro e W8 ⟨v8, rfl, ho8⟩
            have HO8 := Lib.hid (HO7.out.trans ho8)
            clear ho8
            go_wp2
            exact ⟨⟨k + 1, is, Hlt.out, by simp, rfl, Hr.out, HO8.out⟩, by have := Hlt.out; simp [intOf]; omega⟩
          · rw [hcq] at HD
            rw [if_pos hcq] at hr
            have HD := Lib.hid HD
            have Hr := Lib.hid hr
            clear hcq hr
            go_wp2_with fail
            refine HD.out.mono ?_
            rintro e W8 ⟨v8, rfl, ho8⟩
            have HO8 := Lib.hid (HO7.out.trans ho8)
            clear ho8
            go_wp2
            go_ret2
            exact ⟨by rw [← Hr.out]; rfl, HO6.out.trans HO8.out⟩
          · rw [hcq] at HD
            rw [if_neg (by rw [hcq]; decide)] at hr
            have HD := Lib.hid HD
            have Hr := Lib.hid (show linLoop l size (bs.drop (k + 1)) false = R from by rw [← hr, hcq]; simp)
            clear hcq hr
            go_wp2_with fail
            refine HD.out.mono ?_
            rintro e W8 ⟨v8, rfl, ho8⟩
            have HO8 := Lib.hid (HO7.out.trans ho8)
            clear ho8
            go_wp2
            exact ⟨⟨k + 1, false, Hlt.out, by simp, rfl, Hr.out, HO8.out⟩, by have := Hlt.out; simp [intOf]; omega⟩
        · obtain rfl : k = bs.length := by omega
          rw [List.drop_length, linLoop] at hr
          have Hr := Lib.hid hr
          clear hr hlt
          go_wp2_with fail
          go_ret2
          exact ⟨by rw [← Hr.out]; rfl, HO6.out.trans HO7.out⟩
/-- the document's Long: too many, or too great ones -/
def longD (l : List DoneR) (most : Int) : Bool := decide (most < (l.length : Int)) || l.any fun o => decide (50 < o.data.length)
def LgRel (l : List DoneR) (w : World) (i : Value) (wr : World) : Prop := ∃ k : Nat, k ≤ l.length ∧ i = .int .i64 k ∧ (∀ j, j < k → (l.getD j default).data.length ≤ 50) ∧ w = wr
theorem long_any (A : Option Addr) (c : Nat) (l : List DoneR) (most : Int) (w : World) (h : DonesAt w A l.length c l) : Calls Try.prog 8 #[.slice A l.length c, .int .i64 most] w fun e w' => e = .returned (.bool (longD l most)) ∧ w = w' := by
  have hcap := h.cap
  have hmax := h.max
  unfold maxLen at hmax
  have H := Lib.hid h
  clear h
  by_cases hlm : most < (l.length : Int)
  · have hb : longD l most = true := by unfold longD; rw [decide_eq_true hlm]; rfl
    rw [hb]
    clear hb
    go_enter Try.func8, Try.ntmps8
    go_wp2_with fail
    go_ret
    exact ⟨rfl, rfl⟩
  · have Hlm := Lib.hid hlm
    go_enter Try.func8, Try.ntmps8
    go_wp2_with fail
    go_loopw [5] (fun i wr => LgRel l w i wr) (fun i _ => l.length - (intOf i).toNat)
    case atStart => exact ⟨0, Nat.zero_le _, rfl, fun j hj => absurd hj (Nat.not_lt_zero _), rfl⟩
    case round =>
      obtain ⟨k, hk, rfl, hall, rfl⟩ := hrel
      have Hall := Lib.hid hall
      clear hall
      by_cases hlt : k < l.length
      · obtain ⟨g, o, dA, dc, eA, hg, hcells, hby⟩ := H.out.at_ k hlt
        subst eA
        obtain ⟨d0, d1, d2, d3, d4, d5, d6, d7, d8, d9⟩ := tenAt hcells
        have hmem : l.getD k default ∈ l := by
          have : l.getD k default = l[k] := by simp [hlt]
          rw [this]; exact List.getElem_mem _
        have Hmem := Lib.hid hmem
        clear hcells hby hmem d0 d1 d2 d3 d4 d6 d7 d8 d9
        generalize hod : l.getD k default = od at *
        have Hod := Lib.hid hod
        clear hod
        have hki : (k : Int) < l.length := by omega
        have Hlt := Lib.hid hlt
        clear hlt
        by_cases h50 : 50 < od.data.length
        · have h50i : (50 : Int) < (od.data.length : Int) := by omega
          have hb : longD l most = true := by
            unfold longD
            rw [Bool.or_eq_true]
            exact .inr (List.any_eq_true.2 ⟨od, Hmem.out, decide_eq_true h50⟩)
          have Hb := Lib.hid hb
          clear hb h50
          go_wp2_with fail
          go_ret
          exact ⟨by rw [Hb.out]; rfl, rfl⟩
        · have h50i : ¬ (50 : Int) < (od.data.length : Int) := by omega
          have H50 := Lib.hid h50
          clear h50
          go_wp2_with fail
          have hall' : ∀ j, j < k + 1 → (l.getD j default).data.length ≤ 50 := fun j hj => by
            rcases Nat.lt_or_ge j k with h | h
            · exact Hall.out j h
            · obtain rfl : j = k := by omega
              rw [Hod.out]; have := H50.out; omega
          exact ⟨⟨k + 1, Hlt.out, by simp, hall', rfl⟩, by have := Hlt.out; simp [intOf]; omega⟩
      · obtain rfl : k = l.length := by omega
        have hb : longD l most = false := by
          unfold longD
          rw [Bool.or_eq_false_iff]
          refine ⟨decide_eq_false (by have := Hlm.out; omega), List.any_eq_false.2 fun o ho => ?_⟩
          obtain ⟨j, hj, rfl⟩ := List.mem_iff_getElem.1 ho
          have := Hall.out j hj
          have e : l.getD j default = l[j] := by simp [hj]
          rw [e] at this
          simp; omega
        have Hb := Lib.hid hb
        clear hb hlt
        go_wp2_with fail
        go_ret
        exact ⟨by rw [Hb.out]; rfl, rfl⟩
end
end Go.Proofs.Ythfafegfooibmaa
