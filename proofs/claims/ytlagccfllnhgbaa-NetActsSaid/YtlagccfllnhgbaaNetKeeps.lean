/- NetKeeps. -/
import Derived.Test.YtlagccfllnhgbaaNetL
namespace Go.Proofs.Ytlagccfllnhgbaa
open Go.RowKit
set_option linter.unusedVariables false
set_option linter.unusedSimpArgs false
theorem doC_len (c : Cont) (kind way i k : Int) (ls : List (List Int)) : (doC c kind way i k ls).c.length = c.length := by
  unfold doC clearC sendK
  split
  · split <;> simp
  split
  · split <;> simp
  split
  · split
    · split <;> simp
    · rfl
  split
  · split <;> simp
  split
  · split <;> simp
  · dsimp only
    split <;> simp
theorem set_row (c : Cont) (way : Int) (j : Nat) (r : List (List Int)) (hw : 0 ≤ way) (hj : (j : Int) ≠ way) : Cont.row (c.set way.toNat r) j = c.row j := by
  rw [Cont.row_set, if_neg]; omega
theorem doC_row (c : Cont) (kind way i k : Int) (ls : List (List Int)) (j : Nat) (hj : (j : Int) ≠ way) : (doC c kind way i k ls).c.row j = c.row j := by
  have e : ∀ r, thereC c way = true → Cont.row (c.set way.toNat r) j = c.row j := fun r h => set_row c way j r (thereC_bd h).1 hj
  unfold doC clearC sendK
  split
  · split
    · rename_i h; exact e _ h
    · rfl
  split
  · split
    · rename_i h; exact e _ (hasC_there h)
    · rfl
  split
  · split
    · rename_i h
      split
      · exact e _ (hasC_there h)
      · rfl
    · rfl
  split
  · split
    · rename_i h; exact e _ (hasC_there h)
    · rfl
  split
  · split
    · rename_i h; rw [Bool.and_eq_true] at h; exact e _ (hasC_there h.1)
    · rfl
  · dsimp only
    split
    · rename_i h; exact e _ h
    · rfl
theorem lenC_nat (c : Cont) (j : Nat) (hj : j < c.length) : lenC c j = (c.row j).length := by
  unfold lenC thereC
  rw [if_pos]
  · rfl
  · simp; exact hj
theorem doC_lenC (c : Cont) (kind way i k : Int) (ls : List (List Int)) (j : Nat) (hj : j < c.length) (hw : (j : Int) ≠ way) : lenC (doC c kind way i k ls).c j = lenC c j := by
  rw [lenC_nat _ j (by rw [doC_len]; exact hj), lenC_nat c j hj, doC_row _ _ _ _ _ _ _ hw]
theorem Fin.up {w : World} {base b2 : Nat} {A : Option Addr} {fs : List Value} {ls : List (List Int)} (h : Fin w base A fs ls) (hb : base ≤ b2) : Fin w b2 A fs ls :=
  ⟨h.len, h.src, fun hz g o e => Nat.lt_of_lt_of_le (h.far hz g o e) hb, h.byt, fun i hi hz k hk => Nat.lt_of_lt_of_le (h.bfar i hi hz k hk) hb, h.rng⟩
theorem Acts.up {w : World} {base b2 : Nat} {A : Option Addr} {L : List ActA} (h : Acts w base A L) (hb : base ≤ b2) : Acts w b2 A L := by
  intro i hi
  obtain ⟨g, o, A', c', fs, e, hg, h0, h1, h2, h3, h4, hc, hm, hf⟩ := h i hi
  exact ⟨g, o, A', c', fs, e, Nat.lt_of_lt_of_le hg hb, h0, h1, h2, h3, h4, hc, hm, hf.up hb⟩
theorem cyc_get (r : List (List Int)) (k : Nat) (hk : r.length = k) (h0 : 0 < k) : ((r ++ [r.getD 0 []]).eraseIdx 0).getD (k - 1) [] = r.getD 0 [] := by
  cases r with
  | nil => simp at hk; omega
  | cons x r =>
    subst hk
    show (r ++ [x]).getD (r.length + 1 - 1) [] = x
    rw [Nat.add_sub_cancel]
    exact getD_app_r _ _ _
theorem cyc_get0 (r : List (List Int)) (h0 : 0 < r.length) : (r ++ [r.getD 0 []]).getD 0 [] = r.getD 0 [] := getD_app_l _ _ _ _ h0
theorem cyc_len (r : List (List Int)) (x : List Int) : ((r ++ [x]).eraseIdx 0).length = r.length := by
  rw [List.length_eraseIdx, if_pos (by simp)]; simp
theorem hasC_nat (c : Cont) (j i : Nat) (hj : j < c.length) (hi : i < (c.row j).length) : hasC c j i = true := by
  have : thereC c j = true := by simp [thereC, hj]
  simp only [hasC, this, Bool.true_and, Bool.and_eq_true, decide_eq_true_eq]
  exact ⟨by omega, by rw [Int.toNat_natCast]; omega⟩

def K1 (base nb n ab : Nat) (a : ActA) (Aa : Option Addr) (ca : Nat) (w : World) (i : Value) (wr : World) : Prop :=
  ∃ (k : Nat) (c : Cont) (F H : Nat → Prop), k ≤ n ∧ i = .int .i64 k ∧ NetIs 75 wr base nb F H c ∧ c.length = 4 ∧ Only (Abv base) w wr
theorem K1.mk {base nb n ab : Nat} {a : ActA} {Aa : Option Addr} {ca : Nat} {w wr w5 : World} {k : Nat} {c c' : Cont} {F H : Nat → Prop} (hk : k ≤ n) (h0 : NetIs 75 wr base nb F H c) (h : NetPost 75 base nb F H c' wr w5) (hc : c'.length = 4) (ho : Only (Abv base) w wr) :
    K1 base nb n ab a Aa ca w (.int .i64 k) w5 := by
  obtain ⟨F', H', h1, h2, h3, h4⟩ := h
  exact ⟨k, c', F', H', hk, rfl, h1, hc, ho.trans (h0.abv h4)⟩
def K2 (sb : Nat) (c : Cont) (w : World) (i : Value) (wr : World) : Prop :=
  ∃ (k : Nat) (ws : Array Value), k ≤ 4 ∧ i = .int .i64 k ∧ Box wr sb 43 ws ∧ ws.size = 4 ∧ (∀ j, j < k → ws[j]? = some (.int .i64 (lenC c j))) ∧ Only (Just sb) w wr
def K3 (w : World) (i : Value) (wr : World) : Prop := ∃ (k m : Nat), k ≤ 4 ∧ i = .int .i64 k ∧ w.drewN m = wr
def K4 (base nb : Nat) (w : World) (i : Value) (wr : World) : Prop :=
  ∃ (k : Nat) (c : Cont) (F H : Nat → Prop), k ≤ 4 ∧ i = .int .i64 k ∧ NetIs 75 wr base nb F H c ∧ c.length = 4 ∧ Only (Abv base) w wr
theorem new_four : List.replicate (newN 4) ([] : List (List Int)) = [[], [], [], []] := rfl
section
set_option maxHeartbeats 4000000
theorem netKeeps_walk (A : Option Addr) (cp : Nat) (L : List ActA) (a : ActA) (Aa : Option Addr) (ca : Nat) (fs : List Value) (w : World) (hacts : Acts w w.heap.size A L) (hcp : L.length ≤ cp) (hcm : cp ≤ maxLen)
    (hfin : Fin w w.heap.size Aa fs a.ls) (hca : a.ls.length ≤ ca) (hcam : ca ≤ maxLen) (hlong : longB L = false) (ha100 : a.ls.length ≤ 100) (hk0 : 0 ≤ a.kind) (hk5 : a.kind ≤ 5) :
    Calls Try.prog 5 #[.slice A L.length cp, actV a.kind a.way a.i a.k (.slice Aa a.ls.length ca)] w (Ret (.bool true) Non w) := by
  have HW := fun w => Lib.hid (nwakes w)
  have Hlong := fun w' (ho : Only Non w w') => Lib.hid (nlong_any w.heap.size A cp L w' (hacts.only ho fun _ h => h.elim) hcp hcm)
  rw [hlong] at Hlong
  have hlen : ∀ i, i < L.length → (L.getD i default).ls.length ≤ 500 := by
    intro i hi
    simp only [longB, Bool.or_eq_false_iff, List.any_eq_false, decide_eq_false_iff_not] at hlong
    have := hlong.2 L[i] (List.getElem_mem hi)
    rw [show L.getD i default = L[i] by simp [hi]]
    simpa using this
  have hL100 : L.length ≤ 100 := by
    simp only [longB, Bool.or_eq_false_iff, decide_eq_false_iff_not] at hlong
    omega
  have Hlen := Lib.hid hlen
  have Hacts := Lib.hid hacts
  have Hfin := Lib.hid hfin
  clear hacts hfin hlong hlen
  unfold actV
  have hlsn : a.ls.length ≤ 100 := ha100
  obtain ⟨kind, way, ai, ak, als⟩ := a
  simp only at *
  generalize hn : L.length = n at *
  generalize hna : als.length = na at *
  have Hn := Lib.hid hn
  have Hna := Lib.hid hna
  have Hcam := Lib.hid hcam
  unfold maxLen at hcm hcam
  clear hn hna
  have g1 : ¬ 100 < (na : Int) := by omega
  have g2 : ¬ kind < 0 := by omega
  have g3 : ¬ 5 < kind := by omega
  go_enter Try.func5, Try.ntmps5
  have hbA := Box.fresh w 39 #[.int .i64 kind, .int .i64 way, .int .i64 ai, .int .i64 ak, .slice Aa na ca]
  have hoA : Only Non w (w.alloc (.cells #[.int .i64 kind, .int .i64 way, .int .i64 ai, .int .i64 ak, .slice Aa na ca] 39)) := (Only.refl _ _).alloc _
  have hszA := World.size_alloc w (.cells #[.int .i64 kind, .int .i64 way, .int .i64 ai, .int .i64 ak, .slice Aa na ca] 39)
  have HbA := Lib.hid hbA
  have HoA := Lib.hid hoA
  have HszA := Lib.hid hszA
  clear hbA hoA hszA
  go_wp2_with fail
  refine (HW _).out.mono ?_
  rintro e w1 ⟨rfl, ho⟩
  have HO1 := Lib.hid (HoA.out.trans ho)
  have HB1 := Lib.hid (ho.box HbA.out id)
  have HZ1 := Lib.hid (show w.heap.size + 1 ≤ w1.heap.size by have := ho.size; rw [HszA.out] at this; exact this)
  clear ho
  go_wp2_with fail
  refine (Hlong w1 HO1.out).out.mono ?_
  rintro e w2 ⟨rfl, e2⟩
  rw [← e2]
  clear e2 w2
  have b0 : w1.cell? ⟨w.heap.size, 0, none⟩ = some (.int .i64 kind) := HB1.out.cellAt rfl
  have b4 : w1.cell? ⟨w.heap.size, 4, none⟩ = some (.slice Aa na ca) := HB1.out.cellAt rfl
  have HN := Lib.hid (nnew_any 4 (w.heap.size + 1) w1 HZ1.out)
  go_wp2_with fail
  refine HN.out.mono ?_
  rintro e w2 ⟨nb, F, rfl, hn, hF, ho⟩
  rw [new_four] at hn
  clear b0 b4 HN
  have HO2 := Lib.hid (show Only Non w w2 from HO1.out.trans ho)
  have HB2 := Lib.hid (ho.box HB1.out id)
  have Hst := Lib.hid (show K1 (w.heap.size + 1) nb n w.heap.size ⟨kind, way, ai, ak, als⟩ Aa ca w2 (.int .i64 0) w2 from ⟨0, _, F, _, Nat.zero_le _, rfl, hn, rfl, Only.refl _ _⟩)
  have HZ2 := Lib.hid (show w.heap.size + 1 ≤ w2.heap.size from Nat.le_trans HZ1.out ho.size)
  clear hn hF ho HB1 HZ1 Hlong
  have HA2 := Lib.hid (Hacts.out.only HO2.out (fun _ h => h.elim) |>.up (Nat.le_succ _))
  have HF2 := Lib.hid (Hfin.out.only HO2.out (fun _ h => h.elim) |>.up (Nat.le_succ _))
  go_wp2_with fail
  go_loopw [40] (fun i wr => K1 (w.heap.size + 1) nb n w.heap.size ⟨kind, way, ai, ak, als⟩ Aa ca w2 i wr) (fun i _ => n - (intOf i).toNat)
  case atStart => exact Hst.out
  case round =>
    clear Hst
    obtain ⟨k, c, F, H, hk, rfl, hn, hc4, ho⟩ := hrel
    have hwz := Nat.le_trans HZ2.out ho.size
    by_cases hlt : k < n
    · obtain ⟨g, o, A', c', fx, rfl, hg, c0, c1, c2, c3, c4, hq, hqm, hf⟩ := (HA2.out.only ho fun _ h => h) k (by rw [Hn.out]; exact hlt)
      have Hl500 := Lib.hid (Hlen.out k hlt)
      have Hqm := Lib.hid hqm
      have Hnet := Lib.hid hn
      have Hc4 := Lib.hid hc4
      have Ho := Lib.hid ho
      have Hf := Lib.hid hf
      have Hwz := Lib.hid hwz
      clear hqm hn hc4 ho hf
      have Hq := Lib.hid hq
      generalize hax : L.getD k default = ax at *
      obtain ⟨xk, xw, xi, xx, xls⟩ := ax
      simp only at *
      have Hax := Lib.hid hax; clear hax
      have hal : Only Non wr (wr.alloc (.cells #[.int .i64 xk, .int .i64 xw, .int .i64 xi, .int .i64 xx, .slice A' xls.length c'] 39)) := (Only.refl _ _).alloc _
      have Hnet2 := Lib.hid (Hnet.out.keep hal)
      have Hf2 := Lib.hid (Hf.out.only hal fun _ h => h.elim)
      have HD := Lib.hid (ndo_any (w.heap.size + 1) nb F H c xk xw xi xx A' c' fx xls _ Hnet2.out (Nat.le_trans hwz hal.size) Hf2.out (by have := Hl500.out; omega) Hq.out Hqm.out)
      have Hdl := Lib.hid (doC_len c xk xw xi xx xls)
      unfold actV at HD
      have Hnp := Lib.hid (fun c'' w' => @NetPost.step 75 wr _ w' (w.heap.size + 1) nb F H F H c'' (fun _ h => .inl h) (fun _ h => .inl h) (hal.mono fun _ h => h.elim))
      have Hsame := Lib.hid (NetPost.same Hnet.out hal)
      clear hal
      generalize xls.length = xn at *
      by_cases hx0 : 0 ≤ xk
      · by_cases hx5 : xk ≤ 5
        · go_wp2_with fail
          refine HD.out.mono ?_
          rintro e w5 ⟨v, rfl, hv, _, hp⟩
          have Hp := Lib.hid (Hnp.out _ _ hp)
          clear hv hp
          go_wp2_with fail
          refine ⟨?_, by simp [intOf]; omega⟩
          have := K1.mk (ab := w.heap.size) (a := ⟨kind, way, ai, ak, als⟩) (Aa := Aa) (ca := ca) (n := n) (k := k + 1) (by omega) Hnet.out Hp.out (by rw [Hdl.out]; exact Hc4.out) Ho.out
          simpa using this
        · go_wp2_with fail
          refine ⟨?_, by simp [intOf]; omega⟩
          have := K1.mk (ab := w.heap.size) (a := ⟨kind, way, ai, ak, als⟩) (Aa := Aa) (ca := ca) (n := n) (k := k + 1) (by omega) Hnet.out Hsame.out Hc4.out Ho.out
          simpa using this
      · go_wp2_with fail
        refine ⟨?_, by simp [intOf]; omega⟩
        have := K1.mk (ab := w.heap.size) (a := ⟨kind, way, ai, ak, als⟩) (Aa := Aa) (ca := ca) (n := n) (k := k + 1) (by omega) Hnet.out Hsame.out Hc4.out Ho.out
        simpa using this
    · have hkn : k = n := by omega
      clear hlt hk
      subst hkn
      have Hnet := Lib.hid hn
      have Hc4 := Lib.hid hc4
      have Ho := Lib.hid ho
      have Hwz := Lib.hid hwz
      clear hn hc4 ho hwz
      have HbS := Lib.hid (Box.fresh wr 43 #[.int .i64 0, .int .i64 0, .int .i64 0, .int .i64 0])
      have hoS : Only Non wr (wr.alloc (.cells #[.int .i64 0, .int .i64 0, .int .i64 0, .int .i64 0] 43)) := (Only.refl _ _).alloc _
      have HoS := Lib.hid hoS
      have HnS := Lib.hid (Hnet.out.keep hoS)
      have HFS := Lib.hid (show ∀ x, F x → x ≠ wr.heap.size from fun x hx => by have := Hnet.out.flt hx; omega)
      have HoB := Lib.hid (Ho.out.transN hoS)
      have HsS := Lib.hid (show wr.heap.size < (wr.alloc (.cells #[.int .i64 0, .int .i64 0, .int .i64 0, .int .i64 0] 43)).heap.size by rw [World.size_alloc]; omega)
      clear hoS HoS
      go_wp2_with fail
      generalize wr.alloc (.cells #[.int .i64 0, .int .i64 0, .int .i64 0, .int .i64 0] 43) = wS at *
      generalize hsb : wr.heap.size = sb at *
      have Hsb := Lib.hid (show w.heap.size + 1 ≤ sb from Hwz.out)
      clear hsb
      have HnF := Lib.hid (show ∀ w', Only (Just sb) wS w' → NetIs 75 w' (w.heap.size + 1) nb F H c from fun w' ho => HnS.out.only ho (fun x hx e => HFS.out x hx e) (fun x hx e => by
        have e' : x = sb := e
        rw [e'] at hx
        obtain ⟨hv, vs, rows, hA⟩ := HnS.out
        rcases (hA.hbox sb hx).2 with h1 | ⟨cs, h1⟩
        · have := Hsb.out; omega
        · exact absurd (h1.same HbS.out).1 (by decide)))
      go_loopw [56] (fun i wr => K2 sb c wS i wr) (fun i _ => 4 - (intOf i).toNat)
      case atStart => exact ⟨0, _, by omega, rfl, HbS.out, rfl, fun j hj => absurd hj (Nat.not_lt_zero _), Only.refl _ _⟩
      case round =>
        obtain ⟨q, ws, hq, rfl, hb, hws, hj, ho⟩ := hrel
        by_cases hlt : q < 4
        · have HL := Lib.hid (nlen_any nb (w.heap.size + 1) F H c q _ (HnF.out _ ho))
          have hcell : wr.cell? ⟨sb, q, none⟩ = some (ws[q]'(by omega)) := hb.cellAt (Array.getElem?_eq_getElem (by omega))
          have hfree : wr.frozen? ⟨sb, q, none⟩ = false := hb.free q
          have Hb := Lib.hid hb
          have Hws := Lib.hid hws
          have Hj := Lib.hid hj
          have Ho2 := Lib.hid ho
          generalize (ws[q]'(by omega)) = old at *
          clear hb hws hj ho
          go_wp2_with (go_at_call 19; refine HL.out.mono ?_; rintro e w' ⟨rfl, rfl⟩)
          refine ⟨⟨q + 1, _, by omega, by go_num, Hb.out.store q _, by rw [Array.size_setIfInBounds]; exact Hws.out, fun j hj => ?_, Only.setCell (p := ⟨sb, q, none⟩) Ho2.out (.inl rfl) _⟩, by simp [intOf]; omega⟩
          rw [Array.getElem?_setIfInBounds]
          by_cases hjq : q = j
          · subst hjq
            rw [if_pos rfl, if_pos (by rw [Hws.out]; exact hlt)]
          · rw [if_neg hjq]
            exact Hj.out j (by omega)
        · have hq4 : q = 4 := by omega
          subst hq4
          have Hnet3 := Lib.hid (HnF.out _ ho)
          have HoB3 := Lib.hid (show Only (Abv (w.heap.size + 1)) w2 wr from HoB.out.trans' ho (fun b hb => .inl (by have e' : b = sb := hb; rw [e']; exact Hsb.out)))
          have hB3 := HoB3.out.box HB2.out (fun h => by have h' : w.heap.size + 1 ≤ w.heap.size := h; omega)
          have HB3 := Lib.hid hB3
          have Hb := Lib.hid hb
          have Hws := Lib.hid hws
          have Hj := Lib.hid hj
          have Hsz3 := Lib.hid (show sb < wr.heap.size from hb.lt)
          have b0 : wr.cell? ⟨w.heap.size, 0, none⟩ = some (.int .i64 kind) := hB3.cellAt rfl
          have b1 : wr.cell? ⟨w.heap.size, 1, none⟩ = some (.int .i64 way) := hB3.cellAt rfl
          have b2 : wr.cell? ⟨w.heap.size, 2, none⟩ = some (.int .i64 ai) := hB3.cellAt rfl
          have b3 : wr.cell? ⟨w.heap.size, 3, none⟩ = some (.int .i64 ak) := hB3.cellAt rfl
          have b4 : wr.cell? ⟨w.heap.size, 4, none⟩ = some (.slice Aa na ca) := hB3.cellAt rfl
          have hz3 : w.heap.size + 1 ≤ wr.heap.size := Nat.le_trans Hsb.out (Nat.le_of_lt hb.lt)
          have HD := ndo_any (w.heap.size + 1) nb F H c kind way ai ak Aa ca fs als _ Hnet3.out hz3 (HF2.out.only HoB3.out fun _ h => h) (by rw [Hna.out]; omega) (by rw [Hna.out]; exact hca) Hcam.out
          unfold actV at HD
          rw [Hna.out] at HD
          have HD := Lib.hid HD
          have Hdl := Lib.hid (doC_len c kind way ai ak als)
          have Hdj := Lib.hid fun j hj hw => doC_lenC c kind way ai ak als j hj hw
          clear hb hws hj ho hB3
          go_wp2_with fail
          refine HD.out.mono ?_
          rintro e w5 ⟨v, rfl, hv, _, hp⟩
          obtain ⟨F5, H5, hn5, hF5, hH5, ho5⟩ := hp
          have HB5 := Lib.hid (ho5.box HB3.out (fun hf => by have := Hnet3.out.hi hf; omega))
          have Hb5 := Lib.hid (ho5.box Hb.out (fun hf => HFS.out _ hf rfl))
          have Hn5 := Lib.hid hn5
          have Ho5 := Lib.hid (show Only (Abv (w.heap.size + 1)) w2 w5 from HoB3.out.trans (Hnet3.out.abv ho5))
          clear HD b0 b1 b2 b3 b4 hv hn5 hF5 hH5 ho5
          go_wp2_with fail
          go_loopw [68] (fun i wr => K3 w5 i wr) (fun i _ => 4 - (intOf i).toNat)
          case atStart => exact ⟨0, 0, by omega, rfl, rfl⟩
          case round =>
            obtain ⟨q, m, hq, rfl, rfl⟩ := hrel
            by_cases hlt : q < 4
            · have ho6 : Only Non w5 (w5.drewN m) := (Only.refl Non w5).drewN m
              have HL := Lib.hid fun n => nlen_any nb (w.heap.size + 1) F5 H5 _ q _ (Hn5.out.keep (ho6.drewN n))
              have c1 : (w5.drewN m).cell? ⟨w.heap.size, 1, none⟩ = some (.int .i64 way) := ho6.cell (HB5.out.cellAt rfl) id
              have c2 : (w5.drewN m).cell? ⟨sb, q, none⟩ = some (.int .i64 (lenC c q)) := ho6.cell (Hb5.out.cellAt (Hj.out q hlt)) id
              have Hm := Lib.hid (show ∀ n, (w5.drewN m).drewN n = w5.drewN (m + n) from fun n => World.drewN_drewN ..)
              have Hlq := Lib.hid (Hdj.out q (by rw [Hc4.out]; exact hlt))
              clear ho6
              generalize w5.drewN m = w6 at *
              by_cases hqw : (q : Int) = way
              · have hbe : (((q : Int) != way)) = false := by simp [hqw]
                clear Hlq
                go_wp2_with fail
                go_quiet (fail)
                go_wp2_with fail
                exact ⟨⟨q + 1, _, by omega, by go_num, (Hm.out _).symm⟩, by simp [intOf]; omega⟩
              · have hbe : (((q : Int) != way)) = true := by simp [hqw]
                have hl2 := Hlq.out hqw
                have HL2 := Lib.hid fun n => (HL.out n)
                rw [hl2] at HL2
                generalize lenC c q = lq at *
                clear hl2 HL
                go_wp2_with fail
                go_quiet ((go_at_call 19; exact quiet_l (HL2.out _)))
                go_wp2_with fail
                exact ⟨⟨q + 1, _, by omega, by go_num, (Hm.out _).symm⟩, by simp [intOf]; omega⟩
            · have hq4 : q = 4 := by omega
              clear hlt hq
              subst hq4
              have Hn6 := Lib.hid (Hn5.out.keep ((Only.refl Non w5).drewN m))
              have Ho6 := Lib.hid (show Only (Abv (w.heap.size + 1)) w2 (w5.drewN m) from Ho5.out.drewN m)
              generalize w5.drewN m = w6 at *
              have Hc6 := Lib.hid (Hdl.out.trans Hc4.out)
              generalize (doC c kind way ai ak als).c = c6 at *
              have hz6 := Ho6.out.size
              go_wp2_with fail
              go_loopw [85] (fun i wr => K4 (w.heap.size + 1) nb w6 i wr) (fun i _ => 4 - (intOf i).toNat)
              case atStart => exact ⟨0, c6, F5, H5, by omega, rfl, Hn6.out, Hc6.out, Only.refl _ _⟩
              case round =>
                obtain ⟨q, cq, FF, HH, hq, rfl, hnn, hcq, hoo⟩ := hrel
                have hbz : w.heap.size + 1 ≤ wr.heap.size := Nat.le_trans HZ2.out (Nat.le_trans hz6 hoo.size)
                by_cases hlt : q < 4
                · have HL := nlen_any nb (w.heap.size + 1) FF HH _ q _ hnn
                  have hlq := lenC_nat cq q (by rw [hcq]; exact hlt)
                  rw [hlq] at HL
                  have HL := Lib.hid HL
                  have Hhas := Lib.hid fun i hi => hasC_nat cq q i (by rw [hcq]; exact hlt) hi
                  have h400 : (cq.row q).length ≤ 400 := by
                    obtain ⟨hv, vs, rows, hA⟩ := hnn
                    exact hA.c400 q (by rw [← hA.nc, hcq]; exact hlt)
                  have Hnn := Lib.hid hnn
                  have Hcq := Lib.hid hcq
                  have Hoo := Lib.hid hoo
                  generalize hrl : (cq.row q).length = rl at *
                  have Hrl := Lib.hid hrl
                  clear hlq hrl hnn hcq hoo
                  by_cases hr0 : rl = 0
                  · subst hr0
                    go_wp2_with fail
                    refine HL.out.mono ?_
                    rintro e w7 ⟨rfl, e7⟩
                    rw [← e7]
                    clear e7 w7
                    go_wp2_with fail
                    refine ⟨?_, by simp [intOf]; omega⟩
                    (repeat apply Exists.intro)
                    refine ⟨?_, rfl⟩
                    exact ⟨q + 1, cq, FF, HH, by omega, by go_num, Hnn.out, Hcq.out, Hoo.out⟩
                  · have hrb : ((rl : Int) == 0) = false := by simp; omega
                    have hhas : hasC cq q 0 = true := Hhas.out 0 (by omega)
                    by_cases hr4 : rl < 400
                    · have HT := Lib.hid (ntwice_yes (w.heap.size + 1) nb FF HH cq q 0 _ Hnn.out hbz hhas (by rw [Int.toNat_natCast, Hrl.out]; exact hr4))
                      go_wp2_with fail
                      refine HL.out.mono ?_
                      rintro e w7 ⟨rfl, e7⟩
                      rw [← e7]
                      clear e7 w7
                      go_wp2_with fail
                      refine HT.out.mono ?_
                      rintro e w8 ⟨rfl, F8, H8, hn8, hF8, hH8, ho8⟩
                      rw [Int.toNat_natCast] at hn8
                      have hn8' : NetIs 75 w8 (w.heap.size + 1) nb F8 H8 (cq.set q (cq.row q ++ [(cq.row q).getD 0 []])) := hn8
                      have hr1 : Cont.row (cq.set q (cq.row q ++ [(cq.row q).getD 0 []])) q = cq.row q ++ [(cq.row q).getD 0 []] := by rw [Cont.row_set, if_pos ⟨rfl, by rw [Hcq.out]; exact hlt⟩]
                      have hl1 : (cq.set q (cq.row q ++ [(cq.row q).getD 0 []])).length = 4 := by rw [List.length_set]; exact Hcq.out
                      have hg0 := cyc_get0 (cq.row q) (by rw [Hrl.out]; omega)
                      have hgk := cyc_get (cq.row q) rl Hrl.out (by omega)
                      have hle := cyc_len (cq.row q) ((cq.row q).getD 0 [])
                      rw [Hrl.out] at hle
                      have hpl : (cq.row q ++ [(cq.row q).getD 0 []]).length = rl + 1 := by rw [List.length_append, Hrl.out]; rfl
                      generalize cq.set q (cq.row q ++ [(cq.row q).getD 0 []]) = c1 at *
                      generalize cq.row q ++ [(cq.row q).getD 0 []] = r1 at *
                      generalize (cq.row q).getD 0 [] = x0 at *
                      have Ho8 := Lib.hid (show Only (Abv (w.heap.size + 1)) w6 w8 from Hoo.out.trans (Hnn.out.abv ho8))
                      have hz8 : w.heap.size + 1 ≤ w8.heap.size := Nat.le_trans hbz ho8.size
                      have Hn8 := Lib.hid hn8'
                      have HT2 := Lib.hid (ntake_yes (w.heap.size + 1) nb F8 H8 c1 q 0 _ hn8' hz8 (hasC_nat c1 q 0 (by rw [hl1]; exact hlt) (by rw [hr1, hpl]; omega)))
                      have Hr1 := Lib.hid hr1
                      have Hl1 := Lib.hid hl1
                      have Hg0 := Lib.hid hg0
                      have Hgk := Lib.hid hgk
                      have Hle := Lib.hid hle
                      clear HT hn8 hn8' hF8 hH8 ho8 hr1 hl1 hg0 hgk hle hpl
                      go_wp2_with fail
                      refine HT2.out.mono ?_
                      rintro e w9 ⟨v, rfl, hv, hvk, F9, H9, hn9, hF9, hH9, ho9⟩
                      rw [Int.toNat_natCast, Hr1.out] at hv hn9
                      have hv' : Byt w9 v (r1.getD 0 []) := hv
                      rw [Hg0.out] at hv'
                      have hn9' : NetIs 75 w9 (w.heap.size + 1) nb F9 H9 (c1.set q (r1.eraseIdx 0)) := hn9
                      have Hv := Lib.hid hv'
                      have Hvk := Lib.hid (show ∀ k, ownB v k → ¬ F9 k from fun k hk hf => (hF9 k hf).elim (hvk k hk).2.1 fun h => by have := (hvk k hk).1; omega)
                      have Ho9 := Lib.hid (show Only (Abv (w.heap.size + 1)) w6 w9 from Ho8.out.trans (Hn8.out.abv ho9))
                      have hz9 : w.heap.size + 1 ≤ w9.heap.size := Nat.le_trans hz8 ho9.size
                      have hr2 : Cont.row (c1.set q (r1.eraseIdx 0)) q = r1.eraseIdx 0 := by rw [Cont.row_set, if_pos ⟨rfl, by rw [Hl1.out]; exact hlt⟩]
                      have hl2 : (c1.set q (r1.eraseIdx 0)).length = 4 := by rw [List.length_set]; exact Hl1.out
                      generalize c1.set q (r1.eraseIdx 0) = c2 at *
                      generalize r1.eraseIdx 0 = r2 at *
                      have hi2 : hasC c2 q ((rl : Int) - 1) = true := by
                        have := hasC_nat c2 q (rl - 1) (by rw [hl2]; exact hlt) (by rw [hr2, Hle.out]; omega)
                        rw [show ((rl - 1 : Nat) : Int) = (rl : Int) - 1 by omega] at this
                        exact this
                      have HT3 := Lib.hid (ntake_yes (w.heap.size + 1) nb F9 H9 c2 q ((rl : Int) - 1) _ hn9' hz9 hi2)
                      have Hn9 := Lib.hid hn9'
                      have Hr2 := Lib.hid hr2
                      have Hl2 := Lib.hid hl2
                      clear HT2 hv hvk hn9 hn9' hF9 hH9 ho9 hv' hr2 hl2 hi2
                      go_wp2_with fail
                      refine HT3.out.mono ?_
                      rintro e w10 ⟨v2, rfl, hv, hvk, F10, H10, hn10, hF10, hH10, ho10⟩
                      rw [Int.toNat_natCast, Hr2.out, show ((rl : Int) - 1).toNat = rl - 1 by omega] at hv hn10
                      rw [Hgk.out] at hv
                      have HM := same_any v v2 _ _ w10 (Hv.out.only ho10 Hvk.out) hv
                      rw [decide_eq_true (rfl : x0 = x0)] at HM
                      have HM := Lib.hid HM
                      have Hn10 := Lib.hid hn10
                      have Hl10 := Lib.hid (show (c2.set q (r2.eraseIdx (rl - 1))).length = 4 by rw [List.length_set]; exact Hl2.out)
                      have Ho10 := Lib.hid (show Only (Abv (w.heap.size + 1)) w6 w10 from Ho9.out.trans (Hn9.out.abv ho10))
                      clear HT3 hv hvk hn10 hF10 hH10 ho10
                      go_wp2_with fail
                      refine HM.out.mono ?_
                      rintro e w11 ⟨rfl, mm, e11⟩
                      have k11 : Only Non w10 w11 := by rw [← e11]; exact (Only.refl _ _).drewN mm
                      have Hn11 := Lib.hid (Hn10.out.keep k11)
                      have Ho11 := Lib.hid (Ho10.out.transN k11)
                      clear e11 k11
                      go_wp2_with fail
                      refine ⟨?_, by simp [intOf]; omega⟩
                      (repeat apply Exists.intro)
                      refine ⟨?_, rfl⟩
                      exact ⟨q + 1, _, F10, H10, by omega, by go_num, Hn11.out, Hl10.out, Ho11.out⟩
                    · have hw1 : way = way := rfl
                      have hwr := nwrong_any nb (w.heap.size + 1) FF HH cq q 0 _ Hnn.out
                      rw [hhas] at hwr
                      have hA' := Hnn.out
                      obtain ⟨hv, vs, rows, hA⟩ := hA'
                      have hj : (q : Int).toNat < vs.length := by rw [← hA.nc, Hcq.out, Int.toNat_natCast]; exact hlt
                      obtain ⟨wb, cpw, A0, cq0, _, n0, _, n1, _, _, _⟩ := hA.way hj
                      have h4c := hA.c400 _ hj
                      have hll : (cq.row (q : Int).toNat).length = rl := by rw [Int.toNat_natCast]; exact Hrl.out
                      rw [hll] at n1 h4c
                      have HT := Lib.hid (ntwice_full nb wb vs.length cpw rl cq0 A0 q 0 _ (by omega) (by rw [← hA.nc, Hcq.out]; omega) (by rw [← hA.nc]; exact hA.c32) (by omega) h4c n0 n1 hwr)
                      clear n0 n1 hA hwr hll
                      go_wp2_with fail
                      refine HL.out.mono ?_
                      rintro e w7 ⟨rfl, e7⟩
                      rw [← e7]
                      clear e7 w7
                      go_wp2_with fail
                      refine HT.out.mono ?_
                      rintro e w7 ⟨rfl, e7⟩
                      rw [← e7]
                      clear e7 w7
                      go_wp2_with fail
                      refine ⟨?_, by simp [intOf]; omega⟩
                      (repeat apply Exists.intro)
                      refine ⟨?_, rfl⟩
                      exact ⟨q + 1, cq, FF, HH, by omega, by go_num, Hnn.out, Hcq.out, Hoo.out⟩
                · have hq4 : q = 4 := by omega
                  clear hlt hq
                  subst hq4
                  have Hend := Lib.hid (show Only (Abv (w.heap.size + 1)) w wr from (HO2.out.mono fun _ h => h.elim).trans (Ho6.out.trans hoo))
                  go_wp2_with fail
                  go_ret
                  exact ⟨rfl, Hend.out.mono fun b hb => .inr (Nat.le_trans (Nat.le_succ _) hb)⟩
theorem netKeeps_skip (A : Option Addr) (cp : Nat) (L : List ActA) (a : ActA) (Aa : Option Addr) (ca : Nat) (w : World) (hacts : Acts w w.heap.size A L) (hcp : L.length ≤ cp) (hcm : cp ≤ maxLen) (hca : a.ls.length ≤ maxLen)
    (h : longB L = true ∨ 100 < a.ls.length ∨ a.kind < 0 ∨ 5 < a.kind) :
    Calls Try.prog 5 #[.slice A L.length cp, actV a.kind a.way a.i a.k (.slice Aa a.ls.length ca)] w (Ret (.bool true) Non w) := by
  have HW := fun w => Lib.hid (nwakes w)
  have Hlong := fun w' (ho : Only Non w w') => Lib.hid (nlong_any w.heap.size A cp L w' (hacts.only ho fun _ h => h.elim) hcp hcm)
  unfold actV
  obtain ⟨kind, way, ai, ak, als⟩ := a
  simp only at *
  generalize L.length = n at *
  generalize als.length = na at *
  unfold maxLen at hcm hca
  clear hacts
  have hoA : Only Non w (w.alloc (.cells #[.int .i64 kind, .int .i64 way, .int .i64 ai, .int .i64 ak, .slice Aa na ca] 39)) := (Only.refl _ _).alloc _
  have HbA := Lib.hid (Box.fresh w 39 #[.int .i64 kind, .int .i64 way, .int .i64 ai, .int .i64 ak, .slice Aa na ca])
  have HoA := Lib.hid hoA
  clear hoA
  have h' : (longB L = true) ∨ (longB L = false ∧ 100 < (na : Int)) ∨ (longB L = false ∧ ¬ 100 < (na : Int) ∧ kind < 0) ∨ (longB L = false ∧ ¬ 100 < (na : Int) ∧ ¬ kind < 0 ∧ 5 < kind) := by
    cases hb : longB L
    · rw [hb] at h
      rcases h with h | h | h | h
      · cases h
      · exact .inr (.inl ⟨rfl, by omega⟩)
      · by_cases h1 : 100 < (na : Int)
        · exact .inr (.inl ⟨rfl, h1⟩)
        · exact .inr (.inr (.inl ⟨rfl, h1, h⟩))
      · by_cases h1 : 100 < (na : Int)
        · exact .inr (.inl ⟨rfl, h1⟩)
        · by_cases h2 : kind < 0
          · exact .inr (.inr (.inl ⟨rfl, h1, h2⟩))
          · exact .inr (.inr (.inr ⟨rfl, h1, h2, h⟩))
    · exact .inl rfl
  clear h
  rcases h' with hb | ⟨hb, h1⟩ | ⟨hb, h1, h2⟩ | ⟨hb, h1, h2, h3⟩
  all_goals
    rw [hb] at Hlong
    clear hb
    go_enter Try.func5, Try.ntmps5
    go_wp2_with fail
    refine (HW _).out.mono ?_
    rintro e w1 ⟨rfl, ho⟩
    have HO1 := Lib.hid (HoA.out.trans ho)
    have HB1 := Lib.hid (ho.box HbA.out id)
    clear ho
    have b0 : w1.cell? ⟨w.heap.size, 0, none⟩ = some (.int .i64 kind) := HB1.out.cellAt rfl
    have b4 : w1.cell? ⟨w.heap.size, 4, none⟩ = some (.slice Aa na ca) := HB1.out.cellAt rfl
    go_wp2_with fail
    refine (Hlong w1 HO1.out).out.mono ?_
    rintro e w2 ⟨rfl, e2⟩
    rw [← e2]
    clear e2 w2
    go_wp2_with fail
    go_ret
    exact ⟨rfl, HO1.out⟩
end
end Go.Proofs.Ytlagccfllnhgbaa
