/- Order. -/
import Derived.Test.YthfafegfooibmaaHistE
import Derived.Test.YthfafegfooibmaaSort
import Derived.Sort.OwnSortedInts
namespace Go.Proofs.Ythfafegfooibmaa
open Go.RowKit Go.ChangeShapes Go.WideShapes
set_option linter.unusedVariables false
set_option linter.unusedSimpArgs false
theorem Only.of_grown {w w' : World} {g : Nat} (h : w.grownBy w' (some g)) : Only (Just g) w w' := (Only.refl _ w).grown h fun k hk => .inl (by injection hk with hk; exact hk.symm)
theorem mem_compact' {zs : List Int} {x : Int} : x ∈ Lib.compact zs ↔ x ∈ zs := by
  constructor
  · intro h
    unfold Lib.compact Lib.compactUpTo at h
    obtain ⟨i, hi, rfl⟩ := List.mem_map.1 h
    have hi' : i < zs.length := List.mem_range.1 (List.mem_filter.1 hi).1
    simp [getElem!_pos, hi']
  · intro h
    obtain ⟨j, hj, rfl⟩ := List.mem_iff_getElem.1 h
    have key : ∀ j, j < zs.length → zs.toArray[j]! ∈ Lib.compact zs := by
      intro j
      induction j with
      | zero =>
        intro hj
        exact List.mem_map.2 ⟨0, List.mem_filter.2 ⟨List.mem_range.2 hj, by simp [Lib.keeps]⟩, rfl⟩
      | succ j ih =>
        intro hj
        by_cases hk : Lib.keeps zs.toArray (j + 1) = true
        · exact List.mem_map.2 ⟨j + 1, List.mem_filter.2 ⟨List.mem_range.2 hj, hk⟩, rfl⟩
        · have e : zs.toArray[j + 1]! = zs.toArray[j]! := by
            simp only [Lib.keeps, decide_eq_true_eq, not_or, Nat.add_sub_cancel] at hk
            exact Classical.not_not.1 hk.2
          rw [e]
          exact ih (by omega)
    have := key j hj
    rwa [getElem!_pos _ _ (by simpa using hj), List.getElem_toArray] at this
theorem reverse_own {w : World} {base : Nat} {v : Value} {zs : List Int} (h : OwnInts 3 w base v zs) (hl : zs.length ≤ 1000000) :
    Calls Try.prog 15 #[v] w fun e w' => e = .returned (.tuple #[]) ∧ Only (ownB v) w w' := by
  rcases h.2 with ⟨rfl, h0⟩ | ⟨g, cap, cur, rfl, hb, hg, hn, hm, hs, ht⟩
  · refine (sh_Reverse_int_empty none 0 w).mono ?_
    rintro e w' ⟨rfl, rfl⟩
    exact ⟨rfl, Only.refl _ _⟩
  · rw [Nat.mul_one] at ht
    refine (sh_Reverse_int g 0 cap zs w (holds_of_blockI hg ht) (by omega)).mono ?_
    rintro e w' ⟨rfl, n, rfl⟩
    refine ⟨rfl, ?_⟩
    have h1 := grownBy_sortedI (w := w) (g := g) (n := n) (os := #[]) zs.reverse.toArray
    rw [Sort.grow_empty] at h1
    exact (Only.of_grown h1).mono fun b hb => .inl (ownB_slice.2 (show g = b from (show b = g from hb).symm))
theorem row_form' {w : World} {base : Nat} {e : TypeId} {size : Nat} {v : Value} {n : Nat} {xs : List Value} (h : w.ownsRow base e size v n xs) : ∃ A n' c, v = .slice A n' c ∧ n' = n ∧ n ≤ c ∧ c ≤ maxLen := by
  rcases h.2 with ⟨rfl, rfl⟩ | ⟨g, cap, cur, rfl, _, _, hn, hm, _⟩
  · exact ⟨none, _, 0, rfl, rfl, Nat.le_refl _, Nat.zero_le _⟩
  · exact ⟨_, _, cap, rfl, rfl, hn, hm⟩
def plK (l : List DoneR) (block : Int) (k : Nat) : List Nat := (List.range k).filter fun i => decide ((l.getD i default).block = block) && countsD (l.getD i default)
theorem plK_succ (l : List DoneR) (block : Int) (k : Nat) : plK l block (k + 1) = plK l block k ++ (if (decide ((l.getD k default).block = block) && countsD (l.getD k default)) = true then [k] else []) := by
  unfold plK
  rw [List.range_succ, List.filter_append, List.filter_cons, List.filter_nil]
theorem plK_le (l : List DoneR) (block : Int) (k : Nat) : (plK l block k).length ≤ k := Nat.le_trans (List.length_filter_le _ _) (by rw [List.length_range]; exact Nat.le_refl _)
theorem plK_lt {l : List DoneR} {block : Int} {k i : Nat} (hi : i < (plK l block k).length) : (plK l block k).getD i 0 < k := by
  have h : (plK l block k)[i] ∈ plK l block k := List.getElem_mem _
  have := List.mem_range.1 (List.mem_filter.1 h).1
  simpa [hi] using this
def OrRel (A : Option Addr) (c : Nat) (l : List DoneR) (block : Int) (size sb mb : Nat) (w : World) (i : Value) (wr : World) : Prop :=
  ∃ (k : Nat) (av : Value), k ≤ l.length ∧ i = .int .i64 k ∧ Box wr sb 42 (schC A c l av size mb 0) ∧ OwnInts 3 wr w.heap.size av (intsN (plK l block k)) ∧ Met wr mb [] ∧ Only Non w wr
def OrPost (code : Int) (w : World) (e : Ending) (w' : World) : Prop := ∃ v, e = .returned (.tuple #[v, .int .i64 code]) ∧ Only Non w w'
section
set_option maxHeartbeats 4000000
set_option maxRecDepth 100000
theorem order_bad (A : Option Addr) (c : Nat) (l : List DoneR) (block size : Int) (w : World) (hs : size < 1 ∨ 16 < size) : Calls Try.prog 10 #[.slice A l.length c, .int .i64 block, .int .i64 size] w (OrPost (codeD l block size) w) := by
  have hc : codeD l block size = 6 := by unfold codeD orderD; rw [if_pos hs]
  rw [hc]
  clear hc
  by_cases h1 : size < 1
  · clear hs
    go_enter Try.func10, Try.ntmps10
    go_wp2
    go_ret2
    exact ⟨_, rfl, Only.refl _ _⟩
  · have h2 : size > 16 := by omega
    clear hs
    go_enter Try.func10, Try.ntmps10
    go_wp2
    go_ret2
    exact ⟨_, rfl, Only.refl _ _⟩
theorem order_any (A : Option Addr) (c : Nat) (l : List DoneR) (block : Int) (size : Nat) (w : World) (h : DonesAt w A l.length c l) (hl : l.length ≤ 100000) (hs1 : 1 ≤ size) (hs2 : size ≤ 16) :
    Calls Try.prog 10 #[.slice A l.length c, .int .i64 block, .int .i64 size] w (OrPost (codeD l block size) w) := by
  have hcap := h.cap
  have hmax := h.max
  have H := Lib.hid h
  have Hl := Lib.hid hl
  have e1 : ¬ (size : Int) < 1 := by omega
  have e2 : ¬ (size : Int) > 16 := by omega
  have hmm := @run_makeMap Try.prog
  clear h
  go_enter Try.func10, Try.ntmps10
  go_upto_region 4 with fail
  have HB0 := Lib.hid (show Box ((w.alloc (.map #[] 0)).alloc (.cells #[.slice A l.length c, .slice none 0 0, .int .i64 size, .map (some w.heap.size), .int .i64 0] 42)) (w.heap.size + 1) 42 (schC A c l (.slice none 0 0) size w.heap.size 0) from by
    have := Box.fresh (w.alloc (.map #[] 0)) 42 (schC A c l (.slice none 0 0) size w.heap.size 0)
    rwa [show (w.alloc (.map #[] 0)).heap.size = w.heap.size + 1 from World.size_alloc _ _] at this)
  have HO0 := Lib.hid (show Only Non w ((w.alloc (.map #[] 0)).alloc (.cells #[.slice A l.length c, .slice none 0 0, .int .i64 size, .map (some w.heap.size), .int .i64 0] 42)) from ((Only.refl Non w).alloc _).alloc _)
  have HM0 := Lib.hid ((Met.nil w).only (show Only Non (w.alloc (.map #[] 0)) ((w.alloc (.map #[] 0)).alloc (.cells #[.slice A l.length c, .slice none 0 0, .int .i64 size, .map (some w.heap.size), .int .i64 0] 42)) from (Only.refl Non _).alloc _) id)
  change Code.wp _ _ _ _ ((w.alloc (.map #[] 0)).alloc (.cells #[.slice A l.length c, .slice none 0 0, .int .i64 size, .map (some w.heap.size), .int .i64 0] 42))
  generalize (w.alloc (.map #[] 0)).alloc (.cells #[.slice A l.length c, .slice none 0 0, .int .i64 size, .map (some w.heap.size), .int .i64 0] 42) = W0 at *
  have Hsb := Lib.hid (show w.heap.size ≤ w.heap.size + 1 by omega)
  generalize hsb : w.heap.size + 1 = sb at *
  clear hsb
  have Hmb := Lib.hid (Nat.le_refl w.heap.size)
  generalize hmb : w.heap.size = mb at HB0 HM0 ⊢
  rw [hmb] at Hmb
  have Hmb := Lib.hid (show w.heap.size ≤ mb by omega)
  clear hmb hmm
  go_wp2_with fail
  go_loopw [26] (fun i wr => OrRel A c l block size sb mb w i wr) (fun i _ => l.length - (intOf i).toNat)
  case atStart => exact ⟨0, _, Nat.zero_le _, rfl, HB0.out, OwnInts.nil _ _ _, HM0.out, HO0.out⟩
  case round =>
    obtain ⟨k, av, hk, rfl, hb, hown, hmet, ho⟩ := hrel
    obtain ⟨Aa, ca, rfl, hac, ham⟩ := hown.shape
    generalize hln : (intsN (plK l block k)).length = nl at *
    have Hnl := Lib.hid (show nl ≤ k by rw [← hln, List.length_map]; exact plK_le l block k)
    have Hln := Lib.hid (show nl = (plK l block k).length by rw [← hln, List.length_map])
    clear hln
    have HB := Lib.hid hb
    have HW := Lib.hid hown
    have HM := Lib.hid hmet
    have HO := Lib.hid ho
    clear hb hown hmet ho
    by_cases hlt : k < l.length
    · obtain ⟨g, o, dA, dc, eA, hg, hcells, hby⟩ := (H.out.keep HO.out).at_ k hlt
      subst eA
      obtain ⟨d0, d1, d2, d3, d4, d5, d6, d7, d8, d9⟩ := tenAt hcells
      have hpk := plK_succ l block k
      have Hpk := Lib.hid hpk
      clear hcells hby hpk
      generalize hod : l.getD k default = od at *
      clear hod
      have hki : (k : Int) < l.length := by omega
      have Hlt := Lib.hid hlt
      clear hlt
      go_upto_region 7 with (refine wpList_store_row rfl 33 _ _ rfl wr.heap.size (doneC od (.slice dA od.data.length dc)) rfl rfl 33 _ (Box.fresh wr 33 zD) (by kernel_rfl) rfl (done_one od dA od.data.length dc) ?_)
      have ho1 : Only Non wr ((wr.alloc (.cells zD 33)).setRow wr.heap.size (doneC od (.slice dA od.data.length dc))) := ((Only.refl Non wr).alloc _).setRow' (.inr (Nat.le_refl _)) _
      have HY := Lib.hid ((Box.fresh wr 33 zD).setRow' (doneC od (.slice dA od.data.length dc)))
      change Code.wp _ _ _ _ ((wr.alloc (.cells zD 33)).setRow wr.heap.size (doneC od (.slice dA od.data.length dc)))
      generalize (wr.alloc (.cells zD 33)).setRow wr.heap.size (doneC od (.slice dA od.data.length dc)) = W1 at *
      have HB1 := Lib.hid (ho1.box HB.out id)
      have HW1 := Lib.hid (HW.out.only ho1 fun _ _ => id)
      have HM1 := Lib.hid (HM.out.only ho1 id)
      have HO1 := Lib.hid (HO.out.trans ho1)
      clear ho1 d0 d1 d2 d3 d4 d5 d6 d7 d8 d9 HB HW HM HO
      generalize wr.heap.size = yb at *
      obtain ⟨y0, y1, y2, y3, y4, y5, y6, y7, y8, y9⟩ := HY.out.ten
      by_cases hbk : od.block = block
      · have hbe : (od.block == block) = true := by simp [hbk]
        have HC := counts_any od dA od.data.length dc W1
        rcases hcq : countsD od with _ | _
        · rw [hcq] at HC
          have HC := Lib.hid HC
          have Hp1 := Lib.hid (show plK l block (k + 1) = plK l block k by rw [Hpk.out, hcq]; simp)
          have Hbk := Lib.hid hbk
          clear hcq hbk
          go_wp2_with fail
          refine HC.out.mono ?_
          rintro e W2 ⟨rfl, ho2⟩
          have HB2 := Lib.hid (ho2.box HB1.out id)
          have HW2 := Lib.hid (HW1.out.only ho2 fun _ _ => id)
          have HM2 := Lib.hid (HM1.out.only ho2 id)
          have HO2 := Lib.hid (HO1.out.trans ho2)
          clear ho2 y0 y1 y2 y3 y4 y5 y6 y7 y8 y9
          go_wp2
          exact ⟨⟨k + 1, _, Hlt.out, by simp, HB2.out, by rw [Hp1.out]; exact HW2.out, HM2.out, HO2.out⟩, by have := Hlt.out; simp [intOf]; omega⟩
        · rw [hcq] at HC
          have HC := Lib.hid HC
          have Hp1 := Lib.hid (show plK l block (k + 1) = plK l block k ++ [k] by rw [Hpk.out, hcq, hbk]; simp)
          have Hbk := Lib.hid hbk
          clear hcq hbk
          go_wp2_with fail
          refine HC.out.mono ?_
          rintro e W2 ⟨rfl, ho2⟩
          have HB2 := Lib.hid (ho2.box HB1.out id)
          have HW2 := Lib.hid (HW1.out.only ho2 fun _ _ => id)
          have HM2 := Lib.hid (HM1.out.only ho2 id)
          have HO2 := Lib.hid (HO1.out.trans ho2)
          clear ho2 y0 y1 y2 y3 y4 y5 y6 y7 y8 y9
          have c1 : W2.cell? ⟨sb, 1, none⟩ = some (.slice Aa nl ca) := HB2.out.cellAt rfl
          go_upto_region 9 with (first
            | (at_builtin
               refine wpList_push (W2.alloc (.cells #[.int .i64 (k : Int)] 3)) rfl _ _ 28 3 rfl intInfo rfl Try.underlying28 w.heap.size (.slice Aa nl ca) (plK l block k).length ((intsN (plK l block k)).map (Value.int .i64)) (.int .i64 (k : Int)) rfl (by have h := World.ownsRow.alloc HW2.out (.cells #[.int .i64 (k : Int)] 3); rwa [show (intsN (plK l block k)).length = (plK l block k).length by simp] at h) ⟨W2.heap.size, 0, none⟩ rfl ((Box.fresh W2 3 #[.int .i64 (k : Int)]).cellAt rfl) rfl (by have := Hln.out; have := Hnl.out; have := Hl.out; unfold maxLen; omega) (by have := Hln.out; have := Hnl.out; have := Hl.out; omega) (by have := HO2.out.size; rw [World.size_alloc]; omega) ?_
               intro v3 W3 hown3 ho3 hbl3
               obtain ⟨A3, n3, c3, e3, hn3, _, _⟩ := row_form' hown3
               subst e3
               have hown3' : OwnInts 3 W3 w.heap.size (.slice A3 n3 c3) (intsN (plK l block (k + 1))) := by
                 rw [Hp1.out]
                 unfold OwnInts
                 rw [show intsN (plK l block k ++ [k]) = intsN (plK l block k) ++ [(k : Int)] from List.map_append .., List.length_append, List.map_append, show (intsN (plK l block k)).length = (plK l block k).length by simp]
                 exact hown3
               have HW3 := Lib.hid hown3'
               have hnsb : ¬ ownB (.slice Aa nl ca) sb := fun hk => by
                 obtain ⟨cs', hb'⟩ := HW2.out.type hk
                 exact absurd (HB2.out.same hb').1 (by decide)
               have hnmb : ¬ ownB (.slice Aa nl ca) mb := fun hk => by
                 obtain ⟨cs', hb'⟩ := HW2.out.type hk
                 exact HM2.out.ne hb' rfl
               have HB3 := Lib.hid (ho3.box (HB2.out.alloc (.cells #[.int .i64 (k : Int)] 3)) hnsb)
               have HM3 := Lib.hid ((HM2.out.only ((Only.refl Non W2).alloc (.cells #[.int .i64 (k : Int)] 3)) id).only ho3 hnmb)
               have HO3 := Lib.hid ((HO2.out.alloc (.cells #[.int .i64 (k : Int)] 3)).trans' ho3 fun b hb => .inr (HW2.out.lt b hb).1)
               have s1 : W3.cell? ⟨sb, 1, none⟩ = some (.slice Aa nl ca) := HB3.out.cellAt rfl
               have s1f : W3.frozen? ⟨sb, 1, none⟩ = false := HB3.out.free 1
               clear hown3 ho3 hbl3 hn3 hown3' hnsb hnmb c1 HB2 HM2 HO2 HW2 HB1 HW1 HM1 HO1)
            | fail)
          have ho4 : Only (Just sb) W3 (W3.setCell ⟨sb, 1, none⟩ (.slice A3 n3 c3)) := (Only.refl (Just sb) W3).setCell (p := ⟨sb, 1, none⟩) (.inl rfl) _
          have HB4 := Lib.hid (show Box (W3.setCell ⟨sb, 1, none⟩ (.slice A3 n3 c3)) sb 42 (schC (some ⟨g, o, none⟩) c l (.slice A3 n3 c3) size mb 0) from HB3.out.store 1 _)
          have HW4 := Lib.hid (HW3.out.only ho4 fun b hb e => by
            obtain ⟨cs', hb'⟩ := HW3.out.type hb
            have e : b = sb := e
            subst e
            exact absurd (HB3.out.same hb').1 (by decide))
          have HM4 := Lib.hid (HM3.out.only ho4 (fun e => HM3.out.ne HB3.out (show mb = sb from e).symm))
          have HO4 := Lib.hid (HO3.out.trans' ho4 fun b hb => .inr (by have hb : b = sb := hb; have := Hsb.out; omega))
          change Code.wp _ _ _ _ (W3.setCell ⟨sb, 1, none⟩ (.slice A3 n3 c3))
          generalize W3.setCell ⟨sb, 1, none⟩ (.slice A3 n3 c3) = W4 at *
          clear ho4 s1 s1f HB3 HW3 HM3 HO3
          go_wp2
          exact ⟨⟨k + 1, _, Hlt.out, by simp, HB4.out, HW4.out, HM4.out, HO4.out⟩, by have := Hlt.out; simp [intOf]; omega⟩
      · have hbe : (od.block == block) = false := by simp [hbk]
        have Hp1 := Lib.hid (show plK l block (k + 1) = plK l block k by rw [Hpk.out]; simp [hbk])
        have Hbk := Lib.hid hbk
        clear hbk
        go_wp2
        exact ⟨⟨k + 1, _, Hlt.out, by simp, HB1.out, by rw [Hp1.out]; exact HW1.out, HM1.out, HO1.out⟩, by have := Hlt.out; simp [intOf]; omega⟩
    · obtain rfl : k = l.length := by omega
      have hos : (osD l block).length = nl := by rw [Hln.out]; simp [osD, placesD, plK]
      by_cases h60 : 60 < nl
      · have hcd : codeD l block size = 4 := by unfold codeD orderD; rw [if_neg (by omega), hos, if_pos h60]
        have Hcd := Lib.hid hcd
        have h60i : (60 : Int) < (nl : Int) := by omega
        have c1 : wr.cell? ⟨sb, 1, none⟩ = some (.slice Aa nl ca) := HB.out.cellAt rfl
        clear hcd hos h60 hlt
        go_wp2_with fail
        go_ret2
        exact ⟨_, by rw [Hcd.out]; rfl, HO.out⟩
      · have h60i : ¬ (60 : Int) < (nl : Int) := by omega
        have hlen : (plK l block l.length).length ≤ 60 := by rw [← Hln.out]; omega
        have hsch : Sch w wr sb mb A c l (.slice Aa nl ca) (plK l block l.length) size ([], 0) := ⟨HO.out, Hsb.out, Hmb.out, HB.out, HM.out, H.out, HW.out, fun i hi => plK_lt hi, ⟨hs1, hs2⟩, hlen⟩
        have HF := from_any w sb mb A c l (.slice Aa nl ca) (plK l block l.length) size (2 ^ (plK l block l.length).length) wr (0, -1) ([], 0) hsch (Nat.pow_pos (by decide)) (by simp) (by decide) (by dsimp only; omega)
        have hrun : fromD (osN l (plK l block l.length)) size (2 ^ (plK l block l.length).length) (0, -1) ([], 0) = runD (osD l block) size := by
          unfold runD
          rw [hos, ← Hln.out]
          rfl
        rw [hrun] at HF
        have hcd : codeD l block size = (match runD (osD l block) size with | (some p, _) => 0 | (none, s) => if limD < s.2 then 4 else 5) := by
          unfold codeD orderD
          rw [if_neg (by omega), hos, if_neg h60, Int.toNat_natCast]
          split
          · rename_i h; rw [h]
          · rename_i h
            rw [h]
            dsimp only
            split <;> rfl
        have hlx : ∀ p s2, runD (osD l block) size = (some p, s2) → p.length ≤ 60 := fun p s2 h => Nat.le_trans (from_len (hrun.trans h)) hlen
        have Hlx := Lib.hid hlx
        have c1 : wr.cell? ⟨sb, 1, none⟩ = some (.slice Aa nl ca) := HB.out.cellAt rfl
        clear hos h60 hlt hlen hsch hrun hlx
        rcases hq : runD (osD l block) size with ⟨_ | p, s2⟩
        · rw [hq] at HF hcd
          have HF := Lib.hid (show Calls Try.prog 14 #[.pointer (some ⟨sb, 0, none⟩), .agg #[.int .u64 0, .int .i64 (-1)]] wr (FrPost w sb mb A c l (.slice Aa nl ca) (plK l block l.length) size (none, s2) wr) from HF)
          have Hcd := Lib.hid hcd
          clear hcd hq
          go_wp2_with fail
          refine HF.out.mono ?_
          rintro e W5 ⟨lv, rfl, hown, hnew, hs5, ho5⟩
          have c4 : W5.cell? ⟨sb, 4, none⟩ = some (.int .i64 ((s2.2 : Nat) : Int)) := hs5.box.cellAt rfl
          have HO5 := Lib.hid hs5.o
          clear hown hnew hs5 ho5 c1
          by_cases hst : 200000 < s2.2
          · have hsti : (200000 : Int) < ((s2.2 : Nat) : Int) := by omega
            have Hcd2 := Lib.hid (show codeD l block size = 4 from Hcd.out.trans (if_pos hst))
            clear hst
            go_wp2
            go_ret2
            exact ⟨_, by rw [Hcd2.out]; rfl, HO5.out⟩
          · have hsti : ¬ (200000 : Int) < ((s2.2 : Nat) : Int) := by omega
            have Hcd2 := Lib.hid (show codeD l block size = 5 from Hcd.out.trans (if_neg hst))
            clear hst
            go_wp2
            go_ret2
            exact ⟨_, by rw [Hcd2.out]; rfl, HO5.out⟩
        · rw [hq] at HF hcd
          have HF := Lib.hid (show Calls Try.prog 14 #[.pointer (some ⟨sb, 0, none⟩), .agg #[.int .u64 0, .int .i64 (-1)]] wr (FrPost w sb mb A c l (.slice Aa nl ca) (plK l block l.length) size (some p, s2) wr) from HF)
          have Hcd := Lib.hid hcd
          have Hp := Lib.hid (Hlx.out p s2 hq)
          clear hcd hq
          go_wp2_with fail
          refine HF.out.mono ?_
          rintro e W5 ⟨lv, rfl, hown, hnew, hs5, ho5⟩
          have HO5 := Lib.hid hs5.o
          have HR := Lib.hid (reverse_own hown (by have := Hp.out; simp; omega))
          have Hlt := Lib.hid fun k hk => (hown.lt k hk).1
          clear hown hnew hs5 ho5 c1
          go_wp2_with fail
          refine HR.out.mono ?_
          rintro e W6 ⟨rfl, ho6⟩
          have HO6 := Lib.hid (HO5.out.trans' ho6 fun b hb => .inr (Hlt.out b hb))
          clear ho6
          go_wp2
          go_ret2
          exact ⟨_, by rw [Hcd.out]; rfl, HO6.out⟩
end
end Go.Proofs.Ythfafegfooibmaa
