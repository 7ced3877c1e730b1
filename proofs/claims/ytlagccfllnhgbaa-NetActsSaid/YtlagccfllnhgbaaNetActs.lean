/- NetActs. -/
import Derived.Test.YtlagccfllnhgbaaNetKeeps
import Derived.Test.YtlagccfllnhgbaaRefH
namespace Go.Proofs.Ytlagccfllnhgbaa
open Go.RowKit
set_option linter.unusedVariables false
set_option linter.unusedSimpArgs false
/-- the frames of one net are no blocks of the other's own -/
theorem NetIs.cross {T T' : TypeId} {w : World} {base nb xb : Nat} {F H Fx Hx : Nat → Prop} {c c' : Cont} (h : NetIs T w base nb F H c) (hx : NetIs T' w base xb Fx Hx c') : ∀ k, Hx k → ¬ F k := by
  obtain ⟨hv, vs, rows, hA⟩ := h
  obtain ⟨hv', vs', rows', hA'⟩ := hx
  intro k hk hf
  obtain ⟨t, cs, hb, ht⟩ := hA.fbox hf
  rcases (hA'.hbox k hk).2 with h1 | ⟨cs', h1⟩
  · have := hA.hi k hf; omega
  · exact ht (hb.same h1).1
/-- both nets, side by side -/
def Both (base nb xb : Nat) (F H Fx Hx : Nat → Prop) (c : Cont) (w : World) : Prop :=
  NetIs 75 w base nb F H c ∧ NetIs 52 w base xb Fx Hx c ∧ ∀ k, F k → ¬ Fx k
theorem Both.keep {base nb xb : Nat} {F H Fx Hx : Nat → Prop} {c : Cont} {w w' : World} (h : Both base nb xb F H Fx Hx c w) (ho : Only Non w w') : Both base nb xb F H Fx Hx c w' := ⟨h.1.keep ho, h.2.1.keep ho, h.2.2⟩
def A1 (base nb xb n m : Nat) (w : World) (i : Value) (wr : World) : Prop :=
  ∃ (k : Nat) (c : Cont) (F H Fx Hx : Nat → Prop), k ≤ n ∧ i = .int .i64 k ∧ Both base nb xb F H Fx Hx c wr ∧ c.length = m ∧ Only (Abv base) w wr
theorem lenC_hi (c : Cont) : lenC c c.length = 0 := by
  unfold lenC thereC; rw [if_neg]; simp
theorem lenC_lo (c : Cont) : lenC c (-1) = 0 := by
  unfold lenC thereC; rw [if_neg]; simp
theorem sent_le (c : Cont) (kind way i k : Int) (ls : List (List Int)) : (doC c kind way i k ls).sent ≤ 400 := by
  unfold doC
  split
  · split <;> simp <;> omega
  split
  · split <;> simp
  split
  · split
    · split <;> simp
    · simp
  split
  · split <;> simp
  split
  · split <;> simp
  · simp
theorem err_le (c : Cont) (kind way i k : Int) (ls : List (List Int)) : 0 ≤ (doC c kind way i k ls).err ∧ (doC c kind way i k ls).err ≤ 5 := by
  unfold doC
  split
  · split <;> simp
  split
  · split <;> simp
  split
  · split
    · split <;> simp
    · simp
  split
  · split <;> simp
  split
  · split <;> simp
  · simp
section
set_option maxHeartbeats 4000000
set_option maxRecDepth 100000
theorem netActs_walk (ways : Int) (A : Option Addr) (cp : Nat) (L : List ActA) (w : World) (hacts : Acts w w.heap.size A L) (hcp : L.length ≤ cp) (hcm : cp ≤ maxLen) (hlong : longB L = false) (hways : ¬ 10 < ways ∨ ¬ ways ≤ 32) :
    Calls Try.prog 6 #[.int .i64 ways, .slice A L.length cp] w (Ret (.bool true) Non w) := by
  have HW := fun w => Lib.hid (nwakes w)
  have Hlong := fun w' (ho : Only Non w w') => Lib.hid (nlong_any w.heap.size A cp L w' (hacts.only ho fun _ h => h.elim) hcp hcm)
  rw [hlong] at Hlong
  have hlen : ∀ i, i < L.length → (L.getD i default).ls.length ≤ 500 := by
    intro i hi
    simp only [longB, Bool.or_eq_false_iff, List.any_eq_false, decide_eq_false_iff_not] at hlong
    have := hlong.2 L[i] (List.getElem_mem hi)
    rw [show L.getD i default = L[i] by simp [hi]]
    simpa using this
  have hL100 : L.length ≤ 100 := by
    simp only [longB, Bool.or_eq_false_iff, decide_eq_false_iff_not] at hlong
    omega
  have Hlen := Lib.hid hlen
  have Hacts := Lib.hid hacts
  clear hacts hlong hlen
  generalize hn : L.length = n at *
  have Hn := Lib.hid hn
  unfold maxLen at hcm
  clear hn
  -- WALK
  by_cases h10 : 10 < ways
  · have h32 : ¬ ways ≤ 32 := by omega
    clear hways
    go_enter Try.func6, Try.ntmps6
    go_wp2_with fail
    refine (HW _).out.mono ?_
    rintro e w1 ⟨rfl, ho⟩
    have HO1 := Lib.hid ho
    clear ho
    go_wp2_with fail
    refine (Hlong w1 HO1.out).out.mono ?_
    rintro e w2 ⟨rfl, e2⟩
    rw [← e2]
    clear e2 w2 Hlong
    have HN := Lib.hid (nnew_any ways w.heap.size w1 HO1.out.size)
    have HM := Lib.hid (fun w2 (h : w.heap.size ≤ w2.heap.size) => rnew_any ways w.heap.size w2 h)
    generalize newN ways = m at *
    go_wp2_with fail
    refine HN.out.mono ?_
    rintro e w2 ⟨nb, F, rfl, hn, hF, ho⟩
    have HO2 := Lib.hid (show Only Non w w2 from HO1.out.trans ho)
    have HN2 := Lib.hid hn
    clear hn hF ho HN
    go_wp2_with fail
    refine (HM.out w2 HO2.out.size).mono ?_
    rintro e w3 ⟨xb, Fx, rfl, hn, hF, ho⟩
    have hboth : Both w.heap.size nb xb F (fun _ => False) Fx (fun _ => False) (List.replicate m []) w3 := ⟨HN2.out.keep ho, hn, fun k hk hx => by have := HN2.out.flt hk; have := hF k hx; omega⟩
    have HO3 := Lib.hid (HO2.out.trans ho)
    have Hst := Lib.hid (show A1 w.heap.size nb xb n m w3 (.int .i64 0) w3 from ⟨0, _, F, _, Fx, _, Nat.zero_le _, rfl, hboth, by simp, Only.refl _ _⟩)
    have HA3 := Lib.hid (Hacts.out.only HO3.out (fun _ h => h.elim))
    clear hn hF ho HN2 HM hboth HO1 HO2
    go_wp2_with fail
    go_loopw [35] (fun i wr => A1 w.heap.size nb xb n m w3 i wr) (fun i _ => n - (intOf i).toNat)
    case atStart => exact Hst.out
    case round =>
      clear Hst
      obtain ⟨k, c, F, H, Fx, Hx, hk, rfl, hb, hcm2, ho⟩ := hrel
      have hwz := Nat.le_trans HO3.out.size ho.size
      by_cases hlt : k < n
      · obtain ⟨g, o, A', c', fx, rfl, hg, c0, c1, c2, c3, c4, hq, hqm, hf⟩ := (HA3.out.only ho fun _ h => h) k (by rw [Hn.out]; exact hlt)
        have Hl500 := Lib.hid (Hlen.out k hlt)
        have Hqm := Lib.hid hqm
        have Hb := Lib.hid hb
        have Hcm := Lib.hid hcm2
        have Ho := Lib.hid ho
        have Hf := Lib.hid hf
        have Hwz := Lib.hid hwz
        clear hqm hb hcm2 ho hf
        have Hq := Lib.hid hq
        generalize hax : L.getD k default = ax at *
        obtain ⟨xk, xw, xi, xx, xls⟩ := ax
        simp only at *
        have Hax := Lib.hid hax; clear hax
        have hal : Only Non wr (wr.alloc (.cells #[.int .i64 xk, .int .i64 xw, .int .i64 xi, .int .i64 xx, .slice A' xls.length c'] 39)) := (Only.refl _ _).alloc _
        have Hal := Lib.hid hal
        have hbx := Box.fresh wr 39 #[.int .i64 xk, .int .i64 xw, .int .i64 xi, .int .i64 xx, .slice A' xls.length c']
        have Hbx := Lib.hid hbx
        have Hb2 := Lib.hid (Hb.out.keep hal)
        have Hf2 := Lib.hid (Hf.out.only hal fun _ h => h.elim)
        have HD := Lib.hid (ndo_any w.heap.size nb F H c xk xw xi xx A' c' fx xls _ Hb2.out.1 (Nat.le_trans hwz hal.size) Hf2.out (by have := Hl500.out; omega) Hq.out Hqm.out)
        have HX := Lib.hid (fun w5 (h : NetIs 52 w5 w.heap.size xb Fx Hx c) (h2 : w.heap.size ≤ w5.heap.size) (hf : Fin w5 w.heap.size A' fx xls) (h0 : 0 ≤ xk) (h5 : xk ≤ 5) => rdo_any w.heap.size xb Fx Hx c xk xw xi xx A' c' fx xls w5 h h2 hf (by have := Hl500.out; omega) Hq.out Hqm.out h0 h5)
        have Hdl := Lib.hid (doC_len c xk xw xi xx xls)
        have hsl := sent_le c xk xw xi xx xls
        have hel := err_le c xk xw xi xx xls
        unfold actV at HD HX
        have HFl := Lib.hid (show ∀ x, F x → x < wr.heap.size from fun x hx => Hb.out.1.flt hx)
        have HFxl := Lib.hid (show ∀ x, Fx x → x < wr.heap.size from fun x hx => Hb.out.2.1.flt hx)
        have hsz : wr.heap.size < (wr.alloc (.cells #[.int .i64 xk, .int .i64 xw, .int .i64 xi, .int .i64 xx, .slice A' xls.length c'] 39)).heap.size := hbx.lt
        have Hsz := Lib.hid hsz
        clear hal hbx hsz
        generalize xls.length = xn at *
        generalize doC c xk xw xi xx xls = dd at *
        obtain ⟨dc, ds, df, de⟩ := dd
        simp only at *
        by_cases hx0 : 0 ≤ xk
        · by_cases hx5 : xk ≤ 5
          · go_wp2_with fail
            refine HD.out.mono ?_
            rintro e w5 ⟨v, rfl, hv, hvk, F5, H5, hn5, hF5, hH5, ho5⟩
            simp only at hv hn5
            have hx5n := Hb2.out.2.1.only ho5 (fun x hx hf => Hb2.out.2.2 x hf hx) (fun x hx => Hb2.out.1.cross Hb2.out.2.1 x hx)
            have hz5 : w.heap.size ≤ w5.heap.size := by have := ho5.size; have := Hsz.out; omega
            have hbx5 := ho5.box Hbx.out (fun hf => by have := HFl.out _ hf; omega)
            have HXc := Lib.hid (HX.out w5 hx5n hz5 (Hf2.out.only ho5 fun x hx => Hb2.out.1.hi hx) hx0 hx5)
            have Hvx := Lib.hid (show ∀ x, ownB v x → ¬ Fx x from fun x hx => Hb2.out.2.1.cross Hb2.out.1 x (hvk x hx).1)
            have d0 : w5.cell? ⟨wr.heap.size, 0, none⟩ = some (.int .i64 xk) := hbx5.cellAt rfl
            have d1 : w5.cell? ⟨wr.heap.size, 1, none⟩ = some (.int .i64 xw) := hbx5.cellAt rfl
            have d2 : w5.cell? ⟨wr.heap.size, 2, none⟩ = some (.int .i64 xi) := hbx5.cellAt rfl
            have d3 : w5.cell? ⟨wr.heap.size, 3, none⟩ = some (.int .i64 xx) := hbx5.cellAt rfl
            have d4 : w5.cell? ⟨wr.heap.size, 4, none⟩ = some (.slice A' xn c') := hbx5.cellAt rfl
            have HFF5 := Lib.hid (show ∀ x, F5 x → ¬ Fx x from fun x hx hf => (hF5 x hx).elim (fun h => Hb2.out.2.2 x h hf) (fun h => by have := HFxl.out x hf; have := Hsz.out; omega))
            have Hn5 := Lib.hid hn5
            have Hx5n := Lib.hid hx5n
            have Ho5 := Lib.hid ho5
            have Hv := Lib.hid hv
            have Hvf := Lib.hid (show Only (Abv w.heap.size) w3 w5 from (Ho.out.transN Hal.out).trans (Hb2.out.1.abv ho5))
            clear hx5n hbx5 hn5 ho5 hv hvk hF5 hH5 HD
            go_wp2_with fail
            refine HXc.out.mono ?_
            rintro e w6 ⟨vx, rfl, hvx, hvxk, F6, H6, hn6, hF6, hH6, ho6⟩
            simp only at hvx hn6
            have hn56 := Hn5.out.only ho6 (fun x hx hf => HFF5.out x hx hf) (fun x hx => Hx5n.out.cross Hn5.out x hx)
            have Hb6 := Lib.hid (show Both w.heap.size nb xb F5 H5 F6 H6 dc w6 from ⟨hn56, hn6, fun x hx hf => (hF6 x hf).elim (HFF5.out x hx) (fun h => by have := Hn5.out.flt hx; omega)⟩)
            have HS := Lib.hid (same_any v vx df df w6 (Hv.out.only ho6 Hvx.out) hvx)
            rw [decide_eq_true rfl] at HS
            have Ho6 := Lib.hid (show Only (Abv w.heap.size) w3 w6 from Hvf.out.trans (Hx5n.out.abv ho6))
            clear hn56 hn6 hvx hvxk hF6 hH6 ho6 d0 d1 d2 d3 d4
            go_wp2_with fail
            refine HS.out.mono ?_
            rintro e w7 ⟨rfl, z0, rfl⟩
            have Hdm := Lib.hid (show List.length dc = m from by rw [← Hcm.out]; exact Hdl.out)
            have hb6 := Hb6.out.2.1
            obtain ⟨xv, xvs, xrows, hxA⟩ := hb6
            obtain ⟨An, cpx, _, x0, _, _⟩ := hxA.head
            have hxl : xvs.length = m := by rw [← hxA.nc]; exact Hdm.out
            have hm32 : m ≤ 32 := by rw [← hxl, ← hxA.nc]; exact hxA.c32
            rw [hxl] at x0
            have Hxl := Lib.hid hxl
            have HxA := Lib.hid hxA
            have HL := Lib.hid (fun j z => nlen_any nb w.heap.size F5 H5 dc j _ ((Hb6.out.keep ((Only.refl Non w6).drewN z)).1))
            have HAll := Lib.hid (fun z => nall_any nb w.heap.size F5 H5 dc _ ((Hb6.out.keep ((Only.refl Non w6).drewN z)).1))
            have Hxway := Lib.hid (show ∀ j, j < m → ∃ wb A' cq, An = some ⟨wb, 0, none⟩ ∧ w6.cell? ⟨wb, j, none⟩ = some (.slice A' (dc.row j).length cq) ∧ (dc.row j).length ≤ 400 from fun j hj => by
              obtain ⟨wb, cp', A2, cq, _, y0, _, y1, _⟩ := HxA.out.way (j := j) (by rw [Hxl.out]; exact hj)
              rw [Hxl.out] at y0
              rw [x0] at y0
              injection y0 with y0
              injection y0 with y0
              exact ⟨wb, A2, cq, y0, y1, HxA.out.c400 j (by rw [Hxl.out]; exact hj)⟩)
            clear hxl hxA
            go_wp2_with fail
            go_loopw [15, 80] (fun s i wr => ∃ q z : Nat, q ≤ m ∧ i = .int .i64 q ∧ s = .int .i64 (sumUp q fun j => (dc.row j).length) ∧ w6.drewN z = wr) (fun _ i _ => m - (intOf i).toNat)
            case atStart => exact ⟨0, z0, Nat.zero_le _, rfl, rfl, rfl⟩
            case round =>
              obtain ⟨q, z, hq2, rfl, rfl, rfl⟩ := hrel
              have hs := sumUp_le q 400 (fun j => (dc.row j).length) fun i hi => by obtain ⟨_, _, _, _, _, h⟩ := Hxway.out i (by omega); exact h
              by_cases hqm : q < m
              · obtain ⟨wb, A2, cq, rfl, y1, h4⟩ := Hxway.out q hqm
                have Hsu := Lib.hid (show sumUp (q + 1) (fun j => (dc.row j).length) = sumUp q (fun j => (dc.row j).length) + (dc.row q).length from rfl)
                have HLq := Lib.hid (fun n => nlen_any nb w.heap.size F5 H5 dc (q : Int) _ ((Hb6.out.keep (((Only.refl Non w6).drewN z).drewN n)).1))
                rw [lenC_nat dc q (by rw [Hdm.out]; exact hqm)] at HLq
                generalize (sumUp q fun j => (dc.row j).length) = sm at *
                generalize (dc.row q).length = fq at *
                have x0' := ((Only.refl Non w6).drewN z).cell x0 id
                have y1' := ((Only.refl Non w6).drewN z).cell y1 id
                have Hm := Lib.hid (show ∀ n, (w6.drewN z).drewN n = w6.drewN (z + n) from fun n => World.drewN_drewN ..)
                clear x0 y1 HS HL HAll
                generalize w6.drewN z = w8 at *
                go_wp2_with fail
                go_quiet ((go_at_call 19; exact quiet_l (HLq.out _)))
                go_wp2_with fail
                refine ⟨⟨q + 1, _, by omega, by go_num, by rw [Hsu.out]; go_num, (Hm.out _).symm⟩, by simp [intOf]; omega⟩
              · have hqe : q = m := by omega
                clear hqm hq2
                subst hqe
                have HAz := HAll.out z
                rw [show allC dc = sumUp q (fun j => (dc.row j).length) from by unfold allC; rw [Hdm.out]] at HAz
                have HAz := Lib.hid HAz
                have HLa := HL.out (q : Int) z
                rw [show lenC dc (q : Int) = 0 from by rw [← Hdm.out]; exact lenC_hi dc] at HLa
                have HLa := Lib.hid HLa
                have HLb := HL.out (-1) z
                rw [lenC_lo] at HLb
                have HLb := Lib.hid HLb
                generalize (sumUp q fun j => (dc.row j).length) = sm at *
                go_wp2_with fail
                refine HAz.out.mono ?_
                rintro e w8 ⟨rfl, e8⟩
                rw [← e8]
                clear e8
                go_wp2_with fail
                refine HLa.out.mono ?_
                rintro e w8 ⟨rfl, e8⟩
                rw [← e8]
                clear e8
                go_wp2_with fail
                refine HLb.out.mono ?_
                rintro e w8 ⟨rfl, e8⟩
                rw [← e8]
                clear e8
                go_wp2_with fail
                refine ⟨?_, by simp [intOf]; omega⟩
                exact ⟨k + 1, dc, F5, H5, F6, H6, by omega, by simp, Hb6.out.keep ((Only.refl Non w6).drewN z), Hdm.out, Ho6.out.drewN z⟩
          · go_wp2_with fail
            refine ⟨?_, by simp [intOf]; omega⟩
            exact ⟨k + 1, c, F, H, Fx, Hx, by omega, by simp, Hb2.out, Hcm.out, Ho.out.transN Hal.out⟩
        · go_wp2_with fail
          refine ⟨?_, by simp [intOf]; omega⟩
          exact ⟨k + 1, c, F, H, Fx, Hx, by omega, by simp, Hb2.out, Hcm.out, Ho.out.transN Hal.out⟩
      · have hkn : k = n := by omega
        clear hlt hk
        subst hkn
        have HOo := Lib.hid ho
        clear hb hcm2 ho hwz
        go_wp2_with fail
        go_ret
        exact ⟨rfl, HO3.out.trans' HOo.out (fun b hb => .inr hb)⟩
  · clear hways
    go_enter Try.func6, Try.ntmps6
    go_wp2_with fail
    refine (HW _).out.mono ?_
    rintro e w1 ⟨rfl, ho⟩
    have HO1 := Lib.hid ho
    clear ho
    go_wp2_with fail
    refine (Hlong w1 HO1.out).out.mono ?_
    rintro e w2 ⟨rfl, e2⟩
    rw [← e2]
    clear e2 w2 Hlong
    have HN := Lib.hid (nnew_any ways w.heap.size w1 HO1.out.size)
    have HM := Lib.hid (fun w2 (h : w.heap.size ≤ w2.heap.size) => rnew_any ways w.heap.size w2 h)
    generalize newN ways = m at *
    go_wp2_with fail
    refine HN.out.mono ?_
    rintro e w2 ⟨nb, F, rfl, hn, hF, ho⟩
    have HO2 := Lib.hid (show Only Non w w2 from HO1.out.trans ho)
    have HN2 := Lib.hid hn
    clear hn hF ho HN
    go_wp2_with fail
    refine (HM.out w2 HO2.out.size).mono ?_
    rintro e w3 ⟨xb, Fx, rfl, hn, hF, ho⟩
    have hboth : Both w.heap.size nb xb F (fun _ => False) Fx (fun _ => False) (List.replicate m []) w3 := ⟨HN2.out.keep ho, hn, fun k hk hx => by have := HN2.out.flt hk; have := hF k hx; omega⟩
    have HO3 := Lib.hid (HO2.out.trans ho)
    have Hst := Lib.hid (show A1 w.heap.size nb xb n m w3 (.int .i64 0) w3 from ⟨0, _, F, _, Fx, _, Nat.zero_le _, rfl, hboth, by simp, Only.refl _ _⟩)
    have HA3 := Lib.hid (Hacts.out.only HO3.out (fun _ h => h.elim))
    clear hn hF ho HN2 HM hboth HO1 HO2
    go_wp2_with fail
    go_loopw [35] (fun i wr => A1 w.heap.size nb xb n m w3 i wr) (fun i _ => n - (intOf i).toNat)
    case atStart => exact Hst.out
    case round =>
      clear Hst
      obtain ⟨k, c, F, H, Fx, Hx, hk, rfl, hb, hcm2, ho⟩ := hrel
      have hwz := Nat.le_trans HO3.out.size ho.size
      by_cases hlt : k < n
      · obtain ⟨g, o, A', c', fx, rfl, hg, c0, c1, c2, c3, c4, hq, hqm, hf⟩ := (HA3.out.only ho fun _ h => h) k (by rw [Hn.out]; exact hlt)
        have Hl500 := Lib.hid (Hlen.out k hlt)
        have Hqm := Lib.hid hqm
        have Hb := Lib.hid hb
        have Hcm := Lib.hid hcm2
        have Ho := Lib.hid ho
        have Hf := Lib.hid hf
        have Hwz := Lib.hid hwz
        clear hqm hb hcm2 ho hf
        have Hq := Lib.hid hq
        generalize hax : L.getD k default = ax at *
        obtain ⟨xk, xw, xi, xx, xls⟩ := ax
        simp only at *
        have Hax := Lib.hid hax; clear hax
        have hal : Only Non wr (wr.alloc (.cells #[.int .i64 xk, .int .i64 xw, .int .i64 xi, .int .i64 xx, .slice A' xls.length c'] 39)) := (Only.refl _ _).alloc _
        have Hal := Lib.hid hal
        have hbx := Box.fresh wr 39 #[.int .i64 xk, .int .i64 xw, .int .i64 xi, .int .i64 xx, .slice A' xls.length c']
        have Hbx := Lib.hid hbx
        have Hb2 := Lib.hid (Hb.out.keep hal)
        have Hf2 := Lib.hid (Hf.out.only hal fun _ h => h.elim)
        have HD := Lib.hid (ndo_any w.heap.size nb F H c xk xw xi xx A' c' fx xls _ Hb2.out.1 (Nat.le_trans hwz hal.size) Hf2.out (by have := Hl500.out; omega) Hq.out Hqm.out)
        have HX := Lib.hid (fun w5 (h : NetIs 52 w5 w.heap.size xb Fx Hx c) (h2 : w.heap.size ≤ w5.heap.size) (hf : Fin w5 w.heap.size A' fx xls) (h0 : 0 ≤ xk) (h5 : xk ≤ 5) => rdo_any w.heap.size xb Fx Hx c xk xw xi xx A' c' fx xls w5 h h2 hf (by have := Hl500.out; omega) Hq.out Hqm.out h0 h5)
        have Hdl := Lib.hid (doC_len c xk xw xi xx xls)
        have hsl := sent_le c xk xw xi xx xls
        have hel := err_le c xk xw xi xx xls
        unfold actV at HD HX
        have HFl := Lib.hid (show ∀ x, F x → x < wr.heap.size from fun x hx => Hb.out.1.flt hx)
        have HFxl := Lib.hid (show ∀ x, Fx x → x < wr.heap.size from fun x hx => Hb.out.2.1.flt hx)
        have hsz : wr.heap.size < (wr.alloc (.cells #[.int .i64 xk, .int .i64 xw, .int .i64 xi, .int .i64 xx, .slice A' xls.length c'] 39)).heap.size := hbx.lt
        have Hsz := Lib.hid hsz
        clear hal hbx hsz
        generalize xls.length = xn at *
        generalize doC c xk xw xi xx xls = dd at *
        obtain ⟨dc, ds, df, de⟩ := dd
        simp only at *
        by_cases hx0 : 0 ≤ xk
        · by_cases hx5 : xk ≤ 5
          · go_wp2_with fail
            refine HD.out.mono ?_
            rintro e w5 ⟨v, rfl, hv, hvk, F5, H5, hn5, hF5, hH5, ho5⟩
            simp only at hv hn5
            have hx5n := Hb2.out.2.1.only ho5 (fun x hx hf => Hb2.out.2.2 x hf hx) (fun x hx => Hb2.out.1.cross Hb2.out.2.1 x hx)
            have hz5 : w.heap.size ≤ w5.heap.size := by have := ho5.size; have := Hsz.out; omega
            have hbx5 := ho5.box Hbx.out (fun hf => by have := HFl.out _ hf; omega)
            have HXc := Lib.hid (HX.out w5 hx5n hz5 (Hf2.out.only ho5 fun x hx => Hb2.out.1.hi hx) hx0 hx5)
            have Hvx := Lib.hid (show ∀ x, ownB v x → ¬ Fx x from fun x hx => Hb2.out.2.1.cross Hb2.out.1 x (hvk x hx).1)
            have d0 : w5.cell? ⟨wr.heap.size, 0, none⟩ = some (.int .i64 xk) := hbx5.cellAt rfl
            have d1 : w5.cell? ⟨wr.heap.size, 1, none⟩ = some (.int .i64 xw) := hbx5.cellAt rfl
            have d2 : w5.cell? ⟨wr.heap.size, 2, none⟩ = some (.int .i64 xi) := hbx5.cellAt rfl
            have d3 : w5.cell? ⟨wr.heap.size, 3, none⟩ = some (.int .i64 xx) := hbx5.cellAt rfl
            have d4 : w5.cell? ⟨wr.heap.size, 4, none⟩ = some (.slice A' xn c') := hbx5.cellAt rfl
            have HFF5 := Lib.hid (show ∀ x, F5 x → ¬ Fx x from fun x hx hf => (hF5 x hx).elim (fun h => Hb2.out.2.2 x h hf) (fun h => by have := HFxl.out x hf; have := Hsz.out; omega))
            have Hn5 := Lib.hid hn5
            have Hx5n := Lib.hid hx5n
            have Ho5 := Lib.hid ho5
            have Hv := Lib.hid hv
            have Hvf := Lib.hid (show Only (Abv w.heap.size) w3 w5 from (Ho.out.transN Hal.out).trans (Hb2.out.1.abv ho5))
            clear hx5n hbx5 hn5 ho5 hv hvk hF5 hH5 HD
            go_wp2_with fail
            refine HXc.out.mono ?_
            rintro e w6 ⟨vx, rfl, hvx, hvxk, F6, H6, hn6, hF6, hH6, ho6⟩
            simp only at hvx hn6
            have hn56 := Hn5.out.only ho6 (fun x hx hf => HFF5.out x hx hf) (fun x hx => Hx5n.out.cross Hn5.out x hx)
            have Hb6 := Lib.hid (show Both w.heap.size nb xb F5 H5 F6 H6 dc w6 from ⟨hn56, hn6, fun x hx hf => (hF6 x hf).elim (HFF5.out x hx) (fun h => by have := Hn5.out.flt hx; omega)⟩)
            have HS := Lib.hid (same_any v vx df df w6 (Hv.out.only ho6 Hvx.out) hvx)
            rw [decide_eq_true rfl] at HS
            have Ho6 := Lib.hid (show Only (Abv w.heap.size) w3 w6 from Hvf.out.trans (Hx5n.out.abv ho6))
            clear hn56 hn6 hvx hvxk hF6 hH6 ho6 d0 d1 d2 d3 d4
            go_wp2_with fail
            refine HS.out.mono ?_
            rintro e w7 ⟨rfl, z0, rfl⟩
            have Hdm := Lib.hid (show List.length dc = m from by rw [← Hcm.out]; exact Hdl.out)
            have hb6 := Hb6.out.2.1
            obtain ⟨xv, xvs, xrows, hxA⟩ := hb6
            obtain ⟨An, cpx, _, x0, _, _⟩ := hxA.head
            have hxl : xvs.length = m := by rw [← hxA.nc]; exact Hdm.out
            have hm32 : m ≤ 32 := by rw [← hxl, ← hxA.nc]; exact hxA.c32
            rw [hxl] at x0
            have Hxl := Lib.hid hxl
            have HxA := Lib.hid hxA
            have HL := Lib.hid (fun j z => nlen_any nb w.heap.size F5 H5 dc j _ ((Hb6.out.keep ((Only.refl Non w6).drewN z)).1))
            have HAll := Lib.hid (fun z => nall_any nb w.heap.size F5 H5 dc _ ((Hb6.out.keep ((Only.refl Non w6).drewN z)).1))
            have Hxway := Lib.hid (show ∀ j, j < m → ∃ wb A' cq, An = some ⟨wb, 0, none⟩ ∧ w6.cell? ⟨wb, j, none⟩ = some (.slice A' (dc.row j).length cq) ∧ (dc.row j).length ≤ 400 from fun j hj => by
              obtain ⟨wb, cp', A2, cq, _, y0, _, y1, _⟩ := HxA.out.way (j := j) (by rw [Hxl.out]; exact hj)
              rw [Hxl.out] at y0
              rw [x0] at y0
              injection y0 with y0
              injection y0 with y0
              exact ⟨wb, A2, cq, y0, y1, HxA.out.c400 j (by rw [Hxl.out]; exact hj)⟩)
            clear hxl hxA
            go_wp2_with fail
            go_loopw [15, 80] (fun s i wr => ∃ q z : Nat, q ≤ m ∧ i = .int .i64 q ∧ s = .int .i64 (sumUp q fun j => (dc.row j).length) ∧ w6.drewN z = wr) (fun _ i _ => m - (intOf i).toNat)
            case atStart => exact ⟨0, z0, Nat.zero_le _, rfl, rfl, rfl⟩
            case round =>
              obtain ⟨q, z, hq2, rfl, rfl, rfl⟩ := hrel
              have hs := sumUp_le q 400 (fun j => (dc.row j).length) fun i hi => by obtain ⟨_, _, _, _, _, h⟩ := Hxway.out i (by omega); exact h
              by_cases hqm : q < m
              · obtain ⟨wb, A2, cq, rfl, y1, h4⟩ := Hxway.out q hqm
                have Hsu := Lib.hid (show sumUp (q + 1) (fun j => (dc.row j).length) = sumUp q (fun j => (dc.row j).length) + (dc.row q).length from rfl)
                have HLq := Lib.hid (fun n => nlen_any nb w.heap.size F5 H5 dc (q : Int) _ ((Hb6.out.keep (((Only.refl Non w6).drewN z).drewN n)).1))
                rw [lenC_nat dc q (by rw [Hdm.out]; exact hqm)] at HLq
                generalize (sumUp q fun j => (dc.row j).length) = sm at *
                generalize (dc.row q).length = fq at *
                have x0' := ((Only.refl Non w6).drewN z).cell x0 id
                have y1' := ((Only.refl Non w6).drewN z).cell y1 id
                have Hm := Lib.hid (show ∀ n, (w6.drewN z).drewN n = w6.drewN (z + n) from fun n => World.drewN_drewN ..)
                clear x0 y1 HS HL HAll
                generalize w6.drewN z = w8 at *
                go_wp2_with fail
                go_quiet ((go_at_call 19; exact quiet_l (HLq.out _)))
                go_wp2_with fail
                refine ⟨⟨q + 1, _, by omega, by go_num, by rw [Hsu.out]; go_num, (Hm.out _).symm⟩, by simp [intOf]; omega⟩
              · have hqe : q = m := by omega
                clear hqm hq2
                subst hqe
                have HAz := HAll.out z
                rw [show allC dc = sumUp q (fun j => (dc.row j).length) from by unfold allC; rw [Hdm.out]] at HAz
                have HAz := Lib.hid HAz
                have HLa := HL.out (q : Int) z
                rw [show lenC dc (q : Int) = 0 from by rw [← Hdm.out]; exact lenC_hi dc] at HLa
                have HLa := Lib.hid HLa
                have HLb := HL.out (-1) z
                rw [lenC_lo] at HLb
                have HLb := Lib.hid HLb
                generalize (sumUp q fun j => (dc.row j).length) = sm at *
                go_wp2_with fail
                refine HAz.out.mono ?_
                rintro e w8 ⟨rfl, e8⟩
                rw [← e8]
                clear e8
                go_wp2_with fail
                refine HLa.out.mono ?_
                rintro e w8 ⟨rfl, e8⟩
                rw [← e8]
                clear e8
                go_wp2_with fail
                refine HLb.out.mono ?_
                rintro e w8 ⟨rfl, e8⟩
                rw [← e8]
                clear e8
                go_wp2_with fail
                refine ⟨?_, by simp [intOf]; omega⟩
                exact ⟨k + 1, dc, F5, H5, F6, H6, by omega, by simp, Hb6.out.keep ((Only.refl Non w6).drewN z), Hdm.out, Ho6.out.drewN z⟩
          · go_wp2_with fail
            refine ⟨?_, by simp [intOf]; omega⟩
            exact ⟨k + 1, c, F, H, Fx, Hx, by omega, by simp, Hb2.out, Hcm.out, Ho.out.transN Hal.out⟩
        · go_wp2_with fail
          refine ⟨?_, by simp [intOf]; omega⟩
          exact ⟨k + 1, c, F, H, Fx, Hx, by omega, by simp, Hb2.out, Hcm.out, Ho.out.transN Hal.out⟩
      · have hkn : k = n := by omega
        clear hlt hk
        subst hkn
        have HOo := Lib.hid ho
        clear hb hcm2 ho hwz
        go_wp2_with fail
        go_ret
        exact ⟨rfl, HO3.out.trans' HOo.out (fun b hb => .inr hb)⟩
end
end Go.Proofs.Ytlagccfllnhgbaa
