/- HistLess, walked: what is linear is so still without one of its reads. Printed by histless.py. -/
import Derived.Test.YthfafegfooibmaaHistI
namespace Go.Proofs.Ythfafegfooibmaa
open Go.RowKit Go.ChangeShapes Go.WideShapes
set_option linter.unusedVariables false
set_option linter.unusedSimpArgs false
theorem take_flat {L : List DP} {i j : Nat} {u : Value} (h : ((L.take i).flatMap dC)[j]? = some u) : (L.flatMap dC)[j]? = some u := by
  have e : L.flatMap dC = (L.take i).flatMap dC ++ (L.drop i).flatMap dC := by rw [← List.flatMap_append, List.take_append_drop]
  rw [e, List.getElem?_append_left (List.getElem?_eq_some_iff.1 h).1]
  exact h
theorem drop_flat {L : List DP} {i j : Nat} {u : Value} (h : ((L.drop i).flatMap dC)[j]? = some u) : (L.flatMap dC)[i * 10 + j]? = some u := by
  by_cases hi : i ≤ L.length
  · have e : L.flatMap dC = (L.take i).flatMap dC ++ (L.drop i).flatMap dC := by rw [← List.flatMap_append, List.take_append_drop]
    have hl : ((L.take i).flatMap dC).length = i * 10 := by rw [flat_len, List.length_take, Nat.min_eq_left hi]
    rw [e, List.getElem?_append_right (by rw [hl]; omega), hl, Nat.add_sub_cancel_left]
    exact h
  · rw [List.drop_eq_nil_of_le (by omega)] at h
    cases h
theorem less_at {l : List DoneR} {i : Nat} (hi : i < l.length) (hw : (l.getD i default).write = false) (h : linD l 1 = (true, 0)) : (linD (l.take i ++ l.drop (i + 1)) 1).2 = 4 ∨ linD (l.take i ++ l.drop (i + 1)) 1 = (true, 0) := by
  have e : l = l.take i ++ l.getD i default :: l.drop (i + 1) := by
    have h1 : l.drop i = l.getD i default :: l.drop (i + 1) := by rw [List.drop_eq_getElem_cons hi]; simp [hi]
    rw [← h1, List.take_append_drop]
  exact lin_less hw (by rw [← e]; exact h)
section
set_option maxHeartbeats 4000000
set_option maxRecDepth 100000
theorem histLess_walk (A : Option Addr) (c : Nat) (l : List DoneR) (n : Nat) (w : World) (h : DonesAt w A l.length c l) (hn : n ≤ 255) :
    Calls Try.prog 5 #[.slice A l.length c, .int .u8 n] w (Rb true w) := by
  have hcap := h.cap
  have hmax := h.max
  unfold maxLen at hmax
  have H := Lib.hid h
  clear h
  have HK := Lib.hid (wakes_any w)
  go_enter Try.func5, Try.ntmps5
  go_wp2_with fail
  refine HK.out.mono ?_
  rintro e W1 ⟨rfl, ho1⟩
  have HO1 := Lib.hid ho1
  have H1 := Lib.hid (H.out.keep ho1)
  have HL := long_any A c l 30 W1 H1.out
  clear ho1 HK
  by_cases hlong : longD l 30 = true
  · rw [hlong] at HL
    have HL := Lib.hid HL
    clear hlong
    go_wp2_with fail
    refine HL.out.mono ?_
    rintro e W2 ⟨rfl, rfl⟩
    go_wp2
    go_ret
    exact ⟨rfl, HO1.out⟩
  · have hl30 : l.length ≤ 30 := by
      unfold longD at hlong
      simp only [Bool.or_eq_true, decide_eq_true_eq, not_or] at hlong
      omega
    have hlf : longD l 30 = false := by simpa using hlong
    rw [hlf] at HL
    have HL := Lib.hid HL
    clear hlong hlf
    by_cases hl0 : l.length = 0
    · have hl : l = [] := List.eq_nil_of_length_eq_zero hl0
      subst hl
      clear hl0
      go_wp2_with fail
      refine HL.out.mono ?_
      rintro e W2 ⟨rfl, rfl⟩
      go_wp2
      go_ret
      exact ⟨rfl, HO1.out⟩
    · have hlz : ((l.length : Int) == 0) = false := beq_eq_false_iff_ne.2 (by omega)
      have hlz2 : ¬ (l.length : Int) = 0 := by omega
      have hlp : 0 < l.length := by omega
      have HD := Lib.hid (linear_any A c l 1 W1 H1.out (by omega) (by decide) (by decide))
      have hRex : ∃ R, R = linD l 1 := ⟨_, rfl⟩
      obtain ⟨R, hR⟩ := hRex
      have HR := Lib.hid hR
      rw [show linD l ((1 : Nat) : Int) = linD l 1 from congrArg (linD l) (show ((1 : Nat) : Int) = 1 by decide), ← hR] at HD
      have hrem : (n : Int).tmod (l.length : Int) = ((n % l.length : Nat) : Int) := by rw [Int.tmod_eq_emod_of_nonneg (Int.natCast_nonneg n)]; rfl
      have hi := Nat.mod_lt n hlp
      generalize n % l.length = i at *
      clear hl0 hR
      go_wp2_with fail
      refine HL.out.mono ?_
      rintro e W2 ⟨rfl, rfl⟩
      go_wp2_with fail
      refine HD.out.mono ?_
      rintro e W2 ⟨rfl, ho2⟩
      have HO2 := Lib.hid (HO1.out.trans ho2)
      have H2 := Lib.hid (H1.out.keep ho2)
      clear ho2 HD HL
      obtain ⟨g, o, dA, dc, eA, hg, hcells, hby⟩ := H2.out.at_ i hi
      subst eA
      have d3 : W2.cell? ⟨g, o + i * 10 + 3, none⟩ = some (.bool (l.getD i default).write) := hcells 3 _ rfl
      have hii : (i : Int) < l.length := by omega
      clear hcells hby
      obtain ⟨r1, r2⟩ := R
      dsimp only
      by_cases hr2 : r2 = 0
      · subst hr2
        rcases r1 with _ | _
        · go_wp2
          go_ret
          exact ⟨rfl, HO2.out⟩
        · rcases hwq : (l.getD i default).write with _ | _
          · rw [hwq] at d3
            have Hwq := Lib.hid hwq
            obtain ⟨L, hL, hLd, hLc⟩ := dones_pairs H2.out
            have hLl : L.length = l.length := by rw [← hL, List.length_map]
            have HLt := Lib.hid (show (L.take i).length = i by rw [List.length_take]; omega)
            have HLd2 := Lib.hid (show (L.drop (i + 1)).length = l.length - (i + 1) by rw [List.length_drop]; omega)
            have HL1 := Lib.hid hL
            have HLd := Lib.hid hLd
            have HLc := Lib.hid hLc
            have HLb := Lib.hid (fun ad (e : some (⟨g, o, none⟩ : Addr) = some ad) (j : Nat) (u : Value) (hj : (L.flatMap dC)[j]? = some u) => show ad.block < W2.heap.size from by
              injection e with e
              subst e
              exact hg)
            have Hil := Lib.hid (show i < l.length ∧ l.length ≤ 30 from ⟨hi, hl30⟩)
            clear hwq hL hLd hLc hLl
            have hic : i ≤ c := by omega
            have hwi : IntKind.i64.wrap ((i : Int) + 1) = ((i + 1 : Nat) : Int) := by rw [IntKind.wrap_i64]; omega
            have hwj : ((i + 1 : Nat) : Int) ≤ l.length := by omega
            have HLess := Lib.hid (less_at (l := l) hi Hwq.out HR.out.symm)
            go_upto_region 9 with fail
            clear d3
            by_cases hci : c = i + 1
            · subst hci
              refine wp_region_tail (S := (fun _ : World => True)) 10 (by kernel_rfl) (by kernel_rfl) ?_ ?_
              · trivial
              intro hSS
              refine wpHd_take (i := 1) (v := ?_) (by kernel_rfl) rfl (by kernel_rfl) (fun _ _ _ h => h) (Or.inl ⟨by rfl, ?_⟩) (by assumption) ?_
              rotate_left
              · intro w hSw; (try dsimp only at hSw); go_simp; (try with_reducible rfl)
              try simp only [Act.put, List.getElem_toArray, List.getElem_cons_succ, List.getElem_cons_zero, List.setIfInBounds_toArray, List.set_cons_zero, List.set_cons_succ]
              refine wpHd_take (i := 2) (v := ?_) (by kernel_rfl) rfl (by kernel_rfl) (fun _ _ _ h => h) (Or.inl ⟨by rfl, ?_⟩) (by assumption) ?_
              rotate_left
              · intro w hSw; (try dsimp only at hSw); go_simp; (try with_reducible rfl)
              try simp only [Act.put, List.getElem_toArray, List.getElem_cons_succ, List.getElem_cons_zero, List.setIfInBounds_toArray, List.set_cons_zero, List.set_cons_succ]
              refine wpHd_take (i := 3) (v := .slice (some ⟨g, o, none⟩) i (i + 1)) (by kernel_rfl) rfl (by kernel_rfl) (fun _ _ _ h => h) (Or.inl ⟨by rfl, ?_⟩) (by assumption) ?_
              · intro w hSw; go_simp; (first | done | (intro hx; exfalso; omega) | (intro hx; exfalso; have := hx (by omega); omega))
              try simp only [Act.put, List.getElem_toArray, List.getElem_cons_succ, List.getElem_cons_zero, List.setIfInBounds_toArray, List.set_cons_zero, List.set_cons_succ]
              refine wpHd_take (i := 5) (v := ?_) (by kernel_rfl) rfl (by kernel_rfl) (fun _ _ _ h => h) (Or.inl ⟨by rfl, ?_⟩) (by assumption) ?_
              rotate_left
              · intro w hSw; (try dsimp only at hSw); go_simp; (try with_reducible rfl)
              try simp only [Act.put, List.getElem_toArray, List.getElem_cons_succ, List.getElem_cons_zero, List.setIfInBounds_toArray, List.set_cons_zero, List.set_cons_succ]
              refine wpHd_take (i := 6) (v := ?_) (by kernel_rfl) rfl (by kernel_rfl) (fun _ _ _ h => h) (Or.inl ⟨by rfl, ?_⟩) (by assumption) ?_
              rotate_left
              · intro w hSw; (try dsimp only at hSw); go_simp; (try with_reducible rfl)
              try simp only [Act.put, List.getElem_toArray, List.getElem_cons_succ, List.getElem_cons_zero, List.setIfInBounds_toArray, List.set_cons_zero, List.set_cons_succ]
              refine wpHd_take (i := 7) (v := ?_) (by kernel_rfl) rfl (by kernel_rfl) (fun _ _ _ h => h) (Or.inl ⟨by rfl, ?_⟩) (by assumption) ?_
              rotate_left
              · intro w hSw; (try dsimp only at hSw); go_simp; (try with_reducible rfl)
              try simp only [Act.put, List.getElem_toArray, List.getElem_cons_succ, List.getElem_cons_zero, List.setIfInBounds_toArray, List.set_cons_zero, List.set_cons_succ]
              refine wpHd_take (i := 8) (v := .slice (some ⟨g, o, none⟩) 0 0) (by kernel_rfl) rfl (by kernel_rfl) (fun _ _ _ h => h) (Or.inl ⟨by rfl, ?_⟩) (by assumption) ?_
              · intro w hSw; go_simp; (first | done | (intro hx; exfalso; omega) | (intro hx; exfalso; have := hx (by omega); omega))
              try simp only [Act.put, List.getElem_toArray, List.getElem_cons_succ, List.getElem_cons_zero, List.setIfInBounds_toArray, List.set_cons_zero, List.set_cons_succ]
              refine wpHd_one (i := 0) rfl (by kernel_rfl) (fun K hK => ?_)
              go_simp
              skip
              refine hK.out _ _ ?_ (fun hSS => ?_)
              · trivial
              clear hK
              try simp only [Act.put, List.getElem_toArray, List.getElem_cons_succ, List.getElem_cons_zero, List.setIfInBounds_toArray, List.set_cons_zero, List.set_cons_succ]
              refine wpHd_one (i := 4) rfl (by kernel_rfl) (fun K hK => ?_)
              refine wp_append_dones (w := W2.drew.alloc (.cells #[] 33)) _ _ rfl w.heap.size (.slice (some ⟨W2.heap.size, 0, none⟩) 0 0) [] rfl (OwnD.empty W2.drew HO2.out.size) (some ⟨g, o, none⟩) (i + 1) (L.take i) (by rw [HLt.out]; rfl) (fun e => by cases e) (fun ad e j u hj => Only.cell (((Only.refl Non W2).drew).alloc _) (HLc.out ad e j u (take_flat hj)) id) (fun p hp => (HLd.out p (List.mem_of_mem_take hp)).only (((Only.refl Non W2).drew).alloc _) (fun _ hk => hk.elim) fun k hk => .inl (Nat.le_of_eq (ownB_slice.1 hk))) (by rw [HLt.out]; simp; have := Hil.out; omega) (by have := HO2.out.size; rw [World.size_alloc]; exact Nat.le_succ_of_le this) ?_
              intro v6 W6 hown6 ho6 hnew6
              have HW6 := Lib.hid hown6
              have ho26 : Only (Just W2.heap.size) W2 W6 := (((Only.refl (Just W2.heap.size) W2).drew).alloc (.cells #[] 33)).trans' ho6 fun k hk => .inl (show k = W2.heap.size from (ownB_slice.1 hk).symm)
              have HO6 := Lib.hid (HO2.out.trans' ho26 fun k hk => .inr (by have := HO2.out.size; have hk : k = W2.heap.size := hk; omega))
              have HLc6 := Lib.hid (fun ad e j u hj => ho26.cell (HLc.out ad e j u hj) (fun hk => by
                injection e with e
                subst e
                rw [Addr.add_lit] at hk
                have hk : g = W2.heap.size := hk
                omega))
              have HLd6 := Lib.hid (fun p hp => (HLd.out p hp).only ho26 (fun k hk => by have hk : k = W2.heap.size := hk; exact Nat.le_of_eq hk.symm) (F' := fun k => W2.heap.size ≤ k) fun k hk => .inl hk)
              have Hv6 := Lib.hid (fun k hk => show W2.heap.size ≤ k from (hnew6 k hk).elim (fun h => Nat.le_of_eq (ownB_slice.1 h)) fun h => by rw [h, World.size_alloc]; exact Nat.le_succ _)
              clear hown6 ho6 hnew6 ho26
              refine hK.out _ _ ?_ (fun hSS => ?_)
              · trivial
              clear hK
              try simp only [Act.put, List.getElem_toArray, List.getElem_cons_succ, List.getElem_cons_zero, List.setIfInBounds_toArray, List.set_cons_zero, List.set_cons_succ]
              refine wpHd_one (i := 9) rfl (by kernel_rfl) (fun K hK => ?_)
              refine wp_append_dones (w := W6) _ _ rfl w.heap.size v6 (L.take i) rfl HW6.out (some ⟨g, o, none⟩) 0 (L.drop (i + 1)) (by rw [HLd2.out, show l.length - (i + 1) = 0 by have := Hil.out; omega]; rfl) (fun e => by cases e) (fun ad e j u hj => by
                rw [List.eq_nil_of_length_eq_zero (HLd2.out.trans (by have := Hil.out; omega))] at hj
                cases hj) (fun p hp => by
                obtain ⟨dA, dc, e, hb, hn⟩ := HLd6.out p (List.mem_of_mem_drop hp)
                exact ⟨dA, dc, e, hb, fun h0 k hk => ⟨(hn h0 k hk).1, fun hv => (hn h0 k hk).2 (Hv6.out k hv)⟩⟩) (by rw [HLt.out, HLd2.out]; have := Hil.out; omega) HO6.out.size ?_
              intro v7 W7 hown7 ho7 hnew7
              obtain ⟨A7, c7, e7, hda7⟩ := hown7.at_
              have e8 : (L.take i ++ L.drop (i + 1)).map Prod.fst = l.take i ++ l.drop (i + 1) := by rw [List.map_append, List.map_take, List.map_drop, HL1.out]
              rw [e8] at hda7
              rw [show (L.take i ++ L.drop (i + 1)).length = (l.take i ++ l.drop (i + 1)).length by rw [← e8, List.length_map]] at e7
              have HQ := linear_any A7 c7 (l.take i ++ l.drop (i + 1)) 1 W7 hda7 (by simp; have := Hil.out; omega) (by decide) (by decide)
              generalize (l.take i ++ l.drop (i + 1)).length = n7 at *
              subst e7
              have HQ := Lib.hid HQ
              have HO7 := Lib.hid (HO6.out.trans' ho7 fun k hk => .inr (World.ownsRow.lt HW6.out.1 k hk).1)
              clear hown7 ho7 hnew7 e8 hda7 HW6 HO6 HLc6 HLd6
              refine hK.out _ _ ?_ (fun hSS => ?_)
              · trivial
              clear hK
              try simp only [Act.put, List.getElem_toArray, List.getElem_cons_succ, List.getElem_cons_zero, List.setIfInBounds_toArray, List.set_cons_zero, List.set_cons_succ]
              refine wpHd_end (by kernel_rfl) ?_
              clear hSS
              go_wp2_with fail
              refine HQ.out.mono ?_
              rintro e W8 ⟨rfl, ho8⟩
              have HO8 := Lib.hid (HO7.out.trans ho8)
              have hl := HLess.out
              clear ho8 HQ HLess
              generalize linD (l.take i ++ l.drop (i + 1)) 1 = R2 at *
              rcases hl with hl | hl
              · obtain ⟨r1, r2⟩ := R2
                dsimp only at hl
                subst hl
                go_wp2
                go_ret
                exact ⟨rfl, HO8.out⟩
              · subst hl
                go_wp2
                go_ret
                exact ⟨rfl, HO8.out⟩
            · have hci2 : ¬ c = i + 1 := hci
              clear hci
              refine wp_region_tail (S := (fun _ : World => True)) 10 (by kernel_rfl) (by kernel_rfl) ?_ ?_
              · trivial
              intro hSS
              refine wpHd_take (i := 1) (v := ?_) (by kernel_rfl) rfl (by kernel_rfl) (fun _ _ _ h => h) (Or.inl ⟨by rfl, ?_⟩) (by assumption) ?_
              rotate_left
              · intro w hSw; (try dsimp only at hSw); go_simp; (try with_reducible rfl)
              try simp only [Act.put, List.getElem_toArray, List.getElem_cons_succ, List.getElem_cons_zero, List.setIfInBounds_toArray, List.set_cons_zero, List.set_cons_succ]
              refine wpHd_take (i := 2) (v := ?_) (by kernel_rfl) rfl (by kernel_rfl) (fun _ _ _ h => h) (Or.inl ⟨by rfl, ?_⟩) (by assumption) ?_
              rotate_left
              · intro w hSw; (try dsimp only at hSw); go_simp; (try with_reducible rfl)
              try simp only [Act.put, List.getElem_toArray, List.getElem_cons_succ, List.getElem_cons_zero, List.setIfInBounds_toArray, List.set_cons_zero, List.set_cons_succ]
              refine wpHd_take (i := 3) (v := .slice (some ⟨g, o, none⟩) i c) (by kernel_rfl) rfl (by kernel_rfl) (fun _ _ _ h => h) (Or.inl ⟨by rfl, ?_⟩) (by assumption) ?_
              · intro w hSw; go_simp; (first | done | (intro hx; exfalso; omega) | (intro hx; exfalso; have := hx (by omega); omega))
              try simp only [Act.put, List.getElem_toArray, List.getElem_cons_succ, List.getElem_cons_zero, List.setIfInBounds_toArray, List.set_cons_zero, List.set_cons_succ]
              refine wpHd_take (i := 5) (v := ?_) (by kernel_rfl) rfl (by kernel_rfl) (fun _ _ _ h => h) (Or.inl ⟨by rfl, ?_⟩) (by assumption) ?_
              rotate_left
              · intro w hSw; (try dsimp only at hSw); go_simp; (try with_reducible rfl)
              try simp only [Act.put, List.getElem_toArray, List.getElem_cons_succ, List.getElem_cons_zero, List.setIfInBounds_toArray, List.set_cons_zero, List.set_cons_succ]
              refine wpHd_take (i := 6) (v := ?_) (by kernel_rfl) rfl (by kernel_rfl) (fun _ _ _ h => h) (Or.inl ⟨by rfl, ?_⟩) (by assumption) ?_
              rotate_left
              · intro w hSw; (try dsimp only at hSw); go_simp; (try with_reducible rfl)
              try simp only [Act.put, List.getElem_toArray, List.getElem_cons_succ, List.getElem_cons_zero, List.setIfInBounds_toArray, List.set_cons_zero, List.set_cons_succ]
              refine wpHd_take (i := 7) (v := ?_) (by kernel_rfl) rfl (by kernel_rfl) (fun _ _ _ h => h) (Or.inl ⟨by rfl, ?_⟩) (by assumption) ?_
              rotate_left
              · intro w hSw; (try dsimp only at hSw); go_simp; (try with_reducible rfl)
              try simp only [Act.put, List.getElem_toArray, List.getElem_cons_succ, List.getElem_cons_zero, List.setIfInBounds_toArray, List.set_cons_zero, List.set_cons_succ]
              refine wpHd_take (i := 8) (v := .slice (some ⟨g, o + (i + 1) * 10, none⟩) (l.length - (i + 1)) (c - (i + 1))) (by kernel_rfl) rfl (by kernel_rfl) (fun _ _ _ h => h) (Or.inl ⟨by rfl, ?_⟩) (by assumption) ?_
              · intro w hSw; go_simp; (first | done | (intro hx; exfalso; omega) | (intro hx; exfalso; have := hx (by omega); omega))
              try simp only [Act.put, List.getElem_toArray, List.getElem_cons_succ, List.getElem_cons_zero, List.setIfInBounds_toArray, List.set_cons_zero, List.set_cons_succ]
              refine wpHd_one (i := 0) rfl (by kernel_rfl) (fun K hK => ?_)
              go_simp
              skip
              refine hK.out _ _ ?_ (fun hSS => ?_)
              · trivial
              clear hK
              try simp only [Act.put, List.getElem_toArray, List.getElem_cons_succ, List.getElem_cons_zero, List.setIfInBounds_toArray, List.set_cons_zero, List.set_cons_succ]
              refine wpHd_one (i := 4) rfl (by kernel_rfl) (fun K hK => ?_)
              refine wp_append_dones (w := W2.drew.alloc (.cells #[] 33)) _ _ rfl w.heap.size (.slice (some ⟨W2.heap.size, 0, none⟩) 0 0) [] rfl (OwnD.empty W2.drew HO2.out.size) (some ⟨g, o, none⟩) c (L.take i) (by rw [HLt.out]; rfl) (fun e => by cases e) (fun ad e j u hj => Only.cell (((Only.refl Non W2).drew).alloc _) (HLc.out ad e j u (take_flat hj)) id) (fun p hp => (HLd.out p (List.mem_of_mem_take hp)).only (((Only.refl Non W2).drew).alloc _) (fun _ hk => hk.elim) fun k hk => .inl (Nat.le_of_eq (ownB_slice.1 hk))) (by rw [HLt.out]; simp; have := Hil.out; omega) (by have := HO2.out.size; rw [World.size_alloc]; exact Nat.le_succ_of_le this) ?_
              intro v6 W6 hown6 ho6 hnew6
              have HW6 := Lib.hid hown6
              have ho26 : Only (Just W2.heap.size) W2 W6 := (((Only.refl (Just W2.heap.size) W2).drew).alloc (.cells #[] 33)).trans' ho6 fun k hk => .inl (show k = W2.heap.size from (ownB_slice.1 hk).symm)
              have HO6 := Lib.hid (HO2.out.trans' ho26 fun k hk => .inr (by have := HO2.out.size; have hk : k = W2.heap.size := hk; omega))
              have HLc6 := Lib.hid (fun ad e j u hj => ho26.cell (HLc.out ad e j u hj) (fun hk => by
                injection e with e
                subst e
                rw [Addr.add_lit] at hk
                have hk : g = W2.heap.size := hk
                omega))
              have HLd6 := Lib.hid (fun p hp => (HLd.out p hp).only ho26 (fun k hk => by have hk : k = W2.heap.size := hk; exact Nat.le_of_eq hk.symm) (F' := fun k => W2.heap.size ≤ k) fun k hk => .inl hk)
              have Hv6 := Lib.hid (fun k hk => show W2.heap.size ≤ k from (hnew6 k hk).elim (fun h => Nat.le_of_eq (ownB_slice.1 h)) fun h => by rw [h, World.size_alloc]; exact Nat.le_succ _)
              clear hown6 ho6 hnew6 ho26
              refine hK.out _ _ ?_ (fun hSS => ?_)
              · trivial
              clear hK
              try simp only [Act.put, List.getElem_toArray, List.getElem_cons_succ, List.getElem_cons_zero, List.setIfInBounds_toArray, List.set_cons_zero, List.set_cons_succ]
              refine wpHd_one (i := 9) rfl (by kernel_rfl) (fun K hK => ?_)
              refine wp_append_dones (w := W6) _ _ rfl w.heap.size v6 (L.take i) rfl HW6.out (some ⟨g, o + (i + 1) * 10, none⟩) (c - (i + 1)) (L.drop (i + 1)) (by rw [HLd2.out]; rfl) (fun e => by cases e) (fun ad e j u hj => by
                injection e with e
                subst e
                have := HLc6.out ⟨g, o, none⟩ rfl ((i + 1) * 10 + j) u (drop_flat hj)
                rw [Addr.add_lit] at this ⊢
                rwa [← Nat.add_assoc] at this) (fun p hp => by
                obtain ⟨dA, dc, e, hb, hn⟩ := HLd6.out p (List.mem_of_mem_drop hp)
                exact ⟨dA, dc, e, hb, fun h0 k hk => ⟨(hn h0 k hk).1, fun hv => (hn h0 k hk).2 (Hv6.out k hv)⟩⟩) (by rw [HLt.out, HLd2.out]; have := Hil.out; omega) HO6.out.size ?_
              intro v7 W7 hown7 ho7 hnew7
              obtain ⟨A7, c7, e7, hda7⟩ := hown7.at_
              have e8 : (L.take i ++ L.drop (i + 1)).map Prod.fst = l.take i ++ l.drop (i + 1) := by rw [List.map_append, List.map_take, List.map_drop, HL1.out]
              rw [e8] at hda7
              rw [show (L.take i ++ L.drop (i + 1)).length = (l.take i ++ l.drop (i + 1)).length by rw [← e8, List.length_map]] at e7
              have HQ := linear_any A7 c7 (l.take i ++ l.drop (i + 1)) 1 W7 hda7 (by simp; have := Hil.out; omega) (by decide) (by decide)
              generalize (l.take i ++ l.drop (i + 1)).length = n7 at *
              subst e7
              have HQ := Lib.hid HQ
              have HO7 := Lib.hid (HO6.out.trans' ho7 fun k hk => .inr (World.ownsRow.lt HW6.out.1 k hk).1)
              clear hown7 ho7 hnew7 e8 hda7 HW6 HO6 HLc6 HLd6
              refine hK.out _ _ ?_ (fun hSS => ?_)
              · trivial
              clear hK
              try simp only [Act.put, List.getElem_toArray, List.getElem_cons_succ, List.getElem_cons_zero, List.setIfInBounds_toArray, List.set_cons_zero, List.set_cons_succ]
              refine wpHd_end (by kernel_rfl) ?_
              clear hSS
              go_wp2_with fail
              refine HQ.out.mono ?_
              rintro e W8 ⟨rfl, ho8⟩
              have HO8 := Lib.hid (HO7.out.trans ho8)
              have hl := HLess.out
              clear ho8 HQ HLess
              generalize linD (l.take i ++ l.drop (i + 1)) 1 = R2 at *
              rcases hl with hl | hl
              · obtain ⟨r1, r2⟩ := R2
                dsimp only at hl
                subst hl
                go_wp2
                go_ret
                exact ⟨rfl, HO8.out⟩
              · subst hl
                go_wp2
                go_ret
                exact ⟨rfl, HO8.out⟩
          · rw [hwq] at d3
            clear hwq
            go_wp2
            go_ret
            exact ⟨rfl, HO2.out⟩
      · have hre : (r2 != 0) = true := by simp [hr2]
        clear hr2
        go_wp2
        go_ret
        exact ⟨rfl, HO2.out⟩
end
end Go.Proofs.Ythfafegfooibmaa
