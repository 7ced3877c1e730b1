/- HistNever, walked: a read of what nobody wrote is not linear. -/
import Derived.Test.YthfafegfooibmaaHistI
namespace Go.Proofs.Ythfafegfooibmaa
open Go.RowKit Go.ChangeShapes Go.WideShapes
set_option linter.unusedVariables false
set_option linter.unusedSimpArgs false
def nvR (b : Int) : DoneR := ⟨0, 0, 0, false, 0, [b], 0, 1, 2, false⟩
def NvRel (l : List DoneR) (b : Int) (W : World) (i : Value) (wr : World) : Prop :=
  ∃ k : Nat, k ≤ l.length ∧ i = .int .i64 k ∧ (∀ j, j < k → (l.getD j default).data ≠ [b]) ∧ Only Non W wr
theorem one_byt {w : World} {g : Nat} {x : Int} (h : Box w g 5 #[.int .u8 x]) : Byt w (.slice (some ⟨g, 0, none⟩) 1 1) [x] := ⟨_, 1, rfl, Nat.le_refl _, by simp, fun j u hj => ⟨g, 0, rfl, by
  rw [Nat.zero_add]
  exact h.cellAt (by simpa using hj)⟩⟩
theorem one_cells {w : World} {g : Nat} {p : DP} (h : Box w g 33 (doneC p.1 p.2)) : ∀ ad, (some (⟨g, 0, none⟩ : Addr)) = some ad → ∀ j u, ([p].flatMap dC)[j]? = some u → w.cell? (ad.add j) = some u := by
  intro ad e j u hj
  injection e with e
  subst e
  rw [Addr.add_lit, Nat.zero_add]
  refine h.cellAt ?_
  simpa [dC] using hj
section
set_option maxHeartbeats 4000000
set_option maxRecDepth 100000
theorem histNever_walk (A : Option Addr) (c : Nat) (l : List DoneR) (b : Int) (w : World) (h : DonesAt w A l.length c l) :
    Calls Try.prog 6 #[.slice A l.length c, .int .u8 b] w (Rb true w) := by
  have hcap := h.cap
  have hmax := h.max
  unfold maxLen at hmax
  have H := Lib.hid h
  clear h
  have HK := Lib.hid (wakes_any w)
  go_enter Try.func6, Try.ntmps6
  go_wp2_with fail
  refine HK.out.mono ?_
  rintro e W1 ⟨rfl, ho1⟩
  have HO1 := Lib.hid ho1
  have H1 := Lib.hid (H.out.keep ho1)
  have HL := long_any A c l 30 W1 H1.out
  clear ho1 HK
  by_cases hlong : longD l 30 = true
  · rw [hlong] at HL
    have HL := Lib.hid HL
    clear hlong
    go_wp2_with fail
    refine HL.out.mono ?_
    rintro e W2 ⟨rfl, rfl⟩
    go_wp2
    go_ret
    exact ⟨rfl, HO1.out⟩
  · have hl30 : l.length ≤ 30 := by
      unfold longD at hlong
      simp only [Bool.or_eq_true, decide_eq_true_eq, not_or] at hlong
      omega
    have hlf : longD l 30 = false := by simpa using hlong
    rw [hlf] at HL
    have HL := Lib.hid HL
    clear hlong hlf
    by_cases hb0 : b = 0
    · have hbe : (b == 0) = true := by simp [hb0]
      have Hb0 := Lib.hid hb0
      clear hb0
      go_wp2_with fail
      refine HL.out.mono ?_
      rintro e W2 ⟨rfl, rfl⟩
      go_wp2
      go_ret
      exact ⟨rfl, HO1.out⟩
    · have hbe : (b == 0) = false := by simp [hb0]
      have Hb0 := Lib.hid hb0
      clear hb0
      go_wp2_with fail
      refine HL.out.mono ?_
      rintro e W2 ⟨rfl, rfl⟩
      clear HL
      go_wp2_with fail
      go_loopw [19] (fun i wr => NvRel l b W1 i wr) (fun i _ => l.length - (intOf i).toNat)
      case atStart => exact ⟨0, Nat.zero_le _, rfl, fun j hj => absurd hj (Nat.not_lt_zero _), Only.refl _ _⟩
      case round =>
        obtain ⟨k, hk, rfl, hall, ho⟩ := hrel
        have HO4 := Lib.hid (HO1.out.trans ho)
        have HO14 := Lib.hid ho
        have H4 := Lib.hid (H1.out.keep ho)
        have Hall := Lib.hid hall
        clear ho hall
        by_cases hlt : k < l.length
        · obtain ⟨g, o, dA, dc, eA, hg, hcells, hby⟩ := H4.out.at_ k hlt
          subst eA
          obtain ⟨d0, d1, d2, d3, d4, d5, d6, d7, d8, d9⟩ := tenAt hcells
          have Hby := Lib.hid hby
          clear hcells hby
          generalize hod : l.getD k default = od at *
          have Hod := Lib.hid hod
          clear hod
          have hki : (k : Int) < l.length := by omega
          have Hlt := Lib.hid hlt
          clear hlt
          go_upto_region 8 with (refine wpList_store_row rfl 33 _ _ rfl wr.heap.size (doneC od (.slice dA od.data.length dc)) rfl rfl 33 _ (Box.fresh wr 33 zD) (by kernel_rfl) rfl (done_one od dA od.data.length dc) ?_)
          have ho5 : Only Non wr ((wr.alloc (.cells zD 33)).setRow wr.heap.size (doneC od (.slice dA od.data.length dc))) := ((Only.refl Non wr).alloc _).setRow' (.inr (Nat.le_refl _)) _
          have HY := Lib.hid ((Box.fresh wr 33 zD).setRow' (doneC od (.slice dA od.data.length dc)))
          change Code.wp _ _ _ _ ((wr.alloc (.cells zD 33)).setRow wr.heap.size (doneC od (.slice dA od.data.length dc)))
          generalize (wr.alloc (.cells zD 33)).setRow wr.heap.size (doneC od (.slice dA od.data.length dc)) = W5 at *
          have Hby5 := Lib.hid (Hby.out.only ho5 fun _ _ => id)
          have HO5 := Lib.hid (HO14.out.trans ho5)
          clear ho5 d0 d1 d2 d3 d4 d5 d6 d7 d8 d9
          generalize wr.heap.size = yb at *
          have y5 : W5.cell? ⟨yb, 5, none⟩ = some (.slice dA od.data.length dc) := HY.out.cellAt rfl
          by_cases h1 : od.data.length = 1
          · obtain ⟨x, hx⟩ := List.length_eq_one_iff.1 h1
            obtain ⟨g2, o2, eD, hc2⟩ := Hby5.out.cellAt (i := 0) (by omega)
            subst eD
            rw [hx] at hc2
            have hc2 : W5.cell? ⟨g2, o2, none⟩ = some (.int .u8 x) := hc2
            rw [h1] at y5
            by_cases hxb : x = b
            · have hxe : (x == b) = true := by simp [hxb]
              have hdd : od.data.length = 1 := h1
              clear hxb
              go_wp2
              go_ret
              exact ⟨rfl, HO1.out.trans HO5.out⟩
            · have hxe : (x == b) = false := by simp [hxb]
              have hne : od.data ≠ [b] := by rw [hx]; simpa using hxb
              have Hne := Lib.hid hne
              clear hxb hx hne
              go_wp2
              have hall' : ∀ j, j < k + 1 → (l.getD j default).data ≠ [b] := fun j hj => by
                rcases Nat.lt_or_ge j k with h | h
                · exact Hall.out j h
                · obtain rfl : j = k := by omega
                  rw [Hod.out]; exact Hne.out
              exact ⟨⟨k + 1, Hlt.out, by simp, hall', HO5.out⟩, by have := Hlt.out; simp [intOf]; omega⟩
          · have hl1 : ((od.data.length : Int) == 1) = false := by simp; omega
            have hne : od.data ≠ [b] := fun e => h1 (by rw [e]; rfl)
            have Hne := Lib.hid hne
            clear h1 hne
            go_wp2
            have hall' : ∀ j, j < k + 1 → (l.getD j default).data ≠ [b] := fun j hj => by
              rcases Nat.lt_or_ge j k with h | h
              · exact Hall.out j h
              · obtain rfl : j = k := by omega
                rw [Hod.out]; exact Hne.out
            exact ⟨⟨k + 1, Hlt.out, by simp, hall', HO5.out⟩, by have := Hlt.out; simp [intOf]; omega⟩
        · obtain rfl : k = l.length := by omega
          clear hlt
          have hn : ∀ o ∈ l, o.data ≠ [b] := fun o ho => by
            obtain ⟨j, hj, rfl⟩ := List.mem_iff_getElem.1 ho
            have := Hall.out j hj
            have e : l.getD j default = l[j] := by simp [hj]
            rwa [e] at this
          have HN := Lib.hid (lin_never (l := l) (r := nvR b) (b := b) rfl rfl Hb0.out (show (0 : Int) ≤ 2 by decide) rfl hn)
          obtain ⟨L, hL, hLd, hLc⟩ := dones_pairs H4.out
          have hLl : L.length = l.length := by rw [← hL, List.length_map]
          have HLl := Lib.hid hLl
          have HL1 := Lib.hid hL
          have HLd := Lib.hid hLd
          have HLc := Lib.hid hLc
          have hA0 : A = none → L = [] := fun e => by
            cases hl : l with
            | nil => rw [hl] at hLl; exact List.eq_nil_of_length_eq_zero hLl
            | cons y ys =>
              obtain ⟨g, o, dA, dc, eA, _⟩ := H4.out.at_ 0 (by rw [hl]; exact Nat.zero_lt_succ _)
              rw [e] at eA; cases eA
          have HA0 := Lib.hid hA0
          clear hn hL hLd hLc hLl hA0
          go_wp2_with (first
            | (at_builtin
               refine wpList_append_dones (w := wr.alloc (.cells #[] 33)) rfl _ _ rfl w.heap.size (.slice (some ⟨wr.heap.size, 0, none⟩) 0 0) [] rfl (OwnD.empty wr HO4.out.size) A c L (by rw [HLl.out]; rfl) HA0.out (fun ad e j u hj => Only.cell ((Only.refl Non wr).alloc _) (HLc.out ad e j u hj) id) (fun p hp => (HLd.out p hp).only ((Only.refl Non wr).alloc _) (fun _ hk => hk.elim) fun k hk => .inl (Nat.le_of_eq (ownB_slice.1 hk))) (by rw [HLl.out]; simp; omega) (by have := HO4.out.size; rw [World.size_alloc]; omega) ?_
               intro v6 W6 hown6 ho6 hnew6
               have HW6 := Lib.hid hown6
               have HO6 := Lib.hid ((HO4.out.alloc (.cells #[] 33)).trans' ho6 fun k hk => .inr (by have := ownB_slice.1 hk; have := HO4.out.size; omega))
               have ho66 : Only Non W6 ((W6.alloc (.cells #[.int .u8 b] 5)).alloc (.cells (doneC (nvR b) (.slice (some ⟨W6.heap.size, 0, none⟩) 1 1)) 33)) := ((Only.refl Non W6).alloc _).alloc _
               have hbox := Box.fresh (W6.alloc (.cells #[.int .u8 b] 5)) 33 (doneC (nvR b) (.slice (some ⟨W6.heap.size, 0, none⟩) 1 1))
               rw [show (W6.alloc (.cells #[.int .u8 b] 5)).heap.size = W6.heap.size + 1 from World.size_alloc _ _] at hbox
               have Hbox := Lib.hid hbox
               have Hdat := Lib.hid (show DataOk ((W6.alloc (.cells #[.int .u8 b] 5)).alloc (.cells (doneC (nvR b) (.slice (some ⟨W6.heap.size, 0, none⟩) 1 1)) 33)) (ownB v6) (nvR b, .slice (some ⟨W6.heap.size, 0, none⟩) 1 1) from ⟨_, 1, rfl, one_byt ((Box.fresh W6 5 #[.int .u8 b]).alloc _), fun _ k hk => by
                 obtain rfl := ownB_slice.1 hk
                 refine ⟨?_, fun hv => ?_⟩
                 · have := ho66.size; rw [World.size_alloc, World.size_alloc]; omega
                 · have := (World.ownsRow.lt HW6.out.1 _ hv).2; omega⟩)
               have HW66 := Lib.hid (HW6.out.keep ho66)
               have HO66 := Lib.hid (HO6.out.transN ho66)
               clear hown6 ho6 hnew6 ho66 hbox HW6)
            | (at_builtin
               refine wpList_append_dones (w := (W6.alloc (.cells #[.int .u8 b] 5)).alloc (.cells (doneC (nvR b) (.slice (some ⟨W6.heap.size, 0, none⟩) 1 1)) 33)) rfl _ _ rfl w.heap.size v6 L rfl HW66.out (some ⟨W6.heap.size + 1, 0, none⟩) 1 [(nvR b, .slice (some ⟨W6.heap.size, 0, none⟩) 1 1)] rfl (fun e => by cases e) (one_cells Hbox.out) (fun p hp => by rw [List.mem_singleton.1 hp]; exact Hdat.out) (by rw [HLl.out]; simp; omega) HO66.out.size ?_
               intro v7 W7 hown7 ho7 hnew7
               obtain ⟨A7, c7, e7, hda7⟩ := hown7.at_
               have e8 : (L ++ [((nvR b, .slice (some ⟨W6.heap.size, 0, none⟩) 1 1) : DP)]).map Prod.fst = l ++ [nvR b] := by rw [List.map_append, HL1.out]; rfl
               rw [e8] at hda7
               rw [show (L ++ [((nvR b, .slice (some ⟨W6.heap.size, 0, none⟩) 1 1) : DP)]).length = (l ++ [nvR b]).length by rw [← e8, List.length_map]] at e7
               have HQ := linear_any A7 c7 (l ++ [nvR b]) 1 W7 hda7 (by simp; omega) (by decide) (by decide)
               generalize (l ++ [nvR b]).length = n7 at *
               subst e7
               have HQ := Lib.hid HQ
               have HO7 := Lib.hid (HO66.out.trans' ho7 fun k hk => .inr (World.ownsRow.lt HW66.out.1 k hk).1)
               clear hown7 ho7 hnew7 e8 hda7 HW66 HO66 Hdat Hbox)
            | fail)
          refine HQ.out.mono ?_
          rintro e W8 ⟨rfl, ho8⟩
          have HO8 := Lib.hid (HO7.out.trans ho8)
          clear ho8 HQ
          have hn := HN.out
          generalize hR : linD (l ++ [nvR b]) 1 = R at *
          have HR := Lib.hid hR
          clear HN hR
          rcases hn with hn | hn
          · obtain ⟨r1, r2⟩ := R
            dsimp only at hn
            subst hn
            go_wp2
            go_ret
            exact ⟨rfl, HO8.out⟩
          · subst hn
            go_wp2
            go_ret
            exact ⟨rfl, HO8.out⟩
end
end Go.Proofs.Ythfafegfooibmaa
