/- The document's net: Do, Send. -/
import Derived.Test.YtlagccfllnhgbaaRefF
namespace Go.Proofs.Ytlagccfllnhgbaa
open Go.RowKit
set_option linter.unusedVariables false
set_option linter.unusedSimpArgs false
section
set_option maxHeartbeats 4000000
set_option maxRecDepth 100000
def R0Rel (base nb : Nat) (F H : Nat → Prop) (c : Cont) (j : Nat) (ls : List (List Int)) (sent : Nat) (w : World) (s i : Value) (wr : World) : Prop :=
  ∃ k : Nat, k ≤ sent ∧ i = .int .i64 k ∧ s = .int .i64 k ∧ NetPost 52 base nb F H (sendK c j ls k) w wr
theorem rdo_0yes (base nb : Nat) (F H : Nat → Prop) (c : Cont) (way i k : Int) (A : Option Addr) (cp : Nat) (fs : List Value) (ls : List (List Int)) (w : World) (h : NetIs 52 w base nb F H c) (hbase : base ≤ w.heap.size)
    (hl : Fin w base A fs ls) (hlen : ls.length ≤ 1000000) (hcp : ls.length ≤ cp) (hcm : cp ≤ maxLen) (hw0 : 0 ≤ way) (hw1 : way < c.length) :
    Calls Try.prog 24 #[.pointer (some ⟨nb, 0, none⟩), actV 0 way i k (.slice A ls.length cp)] w (RDoPost base nb F H ⟨sendK c way.toNat ls (min ls.length (400 - (c.row way.toNat).length)), min ls.length (400 - (c.row way.toNat).length), [], 0⟩ w) := by
  have hal := boxed_only w 0 way i k A ls.length cp
  have h1 := h.keep hal
  have hfF : ∀ k, F k → k < w.heap.size := by obtain ⟨hv, vs, rows, h⟩ := h; exact fun k hk => h.flt hk
  have HabF := Lib.hid (show ¬ F w.heap.size from fun hf => Nat.lt_irrefl _ (hfF _ hf))
  have Hab := Lib.hid (Box.fresh w 39 #[.int .i64 0, .int .i64 way, .int .i64 i, .int .i64 k, .slice A ls.length cp]).lt
  have HF := Lib.hid (show ∀ x, F x → x < (boxed w 0 way i k A ls.length cp).heap.size from fun x hx => Nat.lt_of_lt_of_le (hfF x hx) hal.size)
  have Hl := Lib.hid ((hl.only hal fun _ h => h.elim).frs (F := F) fun x hx => h.hi hx)
  have hj : way.toNat < c.length := by omega
  have hpost := NetPost.same h1 (Only.refl Non _)
  rw [← sendK_zero c way.toNat ls hj] at hpost
  have Hpost := Lib.hid hpost
  have Hun := Lib.hid (show ∀ (c' : Cont) (w' : World), NetPost 52 base nb F H c' (boxed w 0 way i k A ls.length cp) w' → NetPost 52 base nb F H c' w w' from fun c' w' hp => NetPost.step (fun _ h => .inl h) (fun _ h => .inl h) ((Only.refl F w).alloc _) hp)
  have Hb2 := Lib.hid (show base ≤ (boxed w 0 way i k A ls.length cp).heap.size from Nat.le_trans hbase hal.size)
  obtain ⟨hv, vs, rows, h⟩ := h1
  have hc32 := h.c32
  obtain ⟨wb, cpw, A0, cq0, _, n0, _, n1, _, hq1, hq2⟩ := h.way (j := way.toNat) (by rw [← h.nc]; exact hj)
  have h400 := h.c400 way.toNat (by rw [← h.nc]; exact hj)
  have hvl : vs.length = c.length := h.nc.symm
  rw [hvl] at n0
  clear h hl hpost hal hvl hfF
  obtain ⟨b0, b1, b2, b3, b4⟩ := boxed_act w 0 way i k A ls.length cp
  have Hb1 := Lib.hid b1
  have Hb4 := Lib.hid b4
  unfold maxLen at hcm hq2
  generalize hln : (c.row way.toNat).length = ln at *
  have Hln := Lib.hid hln; clear hln
  unfold actV
  unfold boxed at *
  go_enter Try.func24, Try.ntmps24
  go_wp2_with fail
  generalize w.alloc (.cells #[.int .i64 0, .int .i64 way, .int .i64 i, .int .i64 k, .slice A ls.length cp] 39) = W at *
  go_quiet (fail)
  go_wp2_with fail
  go_loopw [8, 9] (fun s i wr => R0Rel base nb F H c way.toNat ls (min ls.length (400 - ln)) W s i wr) (fun _ i _ => ls.length - (intOf i).toNat)
  case atStart => exact ⟨0, Nat.zero_le _, rfl, rfl, Hpost.out.drew _⟩
  case round =>
    clear b0 b1 b2 b3 b4 n0 n1
    obtain ⟨k, hk, rfl, rfl, F1, H1, hn1, hF1, hH1, ho1⟩ := hrel
    have b1 := ho1.cell Hb1.out HabF.out
    have b4 := ho1.cell Hb4.out HabF.out
    have Hfr := Lib.hid (Hl.out.only ho1 HF.out)
    have Hp := Lib.hid (show NetPost 52 base nb F H (sendK c way.toNat ls k) W wr from ⟨F1, H1, hn1, hF1, hH1, ho1⟩)
    have HF1 := Lib.hid hF1
    have HH1 := Lib.hid hH1
    have Ho1 := Lib.hid ho1
    obtain ⟨hv1, vs1, rows1, hA⟩ := hn1
    have hvs1 : vs1.length = List.length c := by rw [← hA.nc]; simp [sendK]
    have hjv : way.toNat < vs1.length := by omega
    obtain ⟨wb1, cp1, A1, cq1, ehv, n0, ev, n1, nf, hq1, hq2⟩ := hA.way hjv
    have hm1 : ((sendK c way.toNat ls k).row way.toNat).length = ln + k := by
      rw [sendK_row c _ ls k hj, List.length_append, Hln.out, List.length_take]; omega
    obtain ⟨sep1, sep2, sep3⟩ := hA.sep hjv
    have hown1 : ownB hv1 wb1 := by rw [ehv]; exact ownB_slice.2 rfl
    have Hown1 := Lib.hid hown1
    have Hm1 := Lib.hid hm1
    have hrowA := hA.row _ hjv
    have hrl := hA.clen _ hjv
    rw [hm1] at ev n1 hq1 hrl
    rw [ev] at sep1 sep2 hrowA
    rw [hvs1] at n0
    have Hrow := Lib.hid hrowA
    have Hsep2 := Lib.hid (sep2 wb1 hown1)
    have Hsep1 := Lib.hid sep1
    have Hsep4 := Lib.hid (show ¬ ownB (.slice A1 (ln + k) cq1) w.heap.size from fun hx => (hF1 _ ((hA.foot _).2 (.inr (.inr ⟨_, hjv, by rw [ev]; exact hx⟩)))).elim HabF.out (fun h => absurd h (Nat.not_le_of_lt Hab.out)))
    have hne : nb ≠ wb1 := sep3 wb1 hown1
    have HA := Lib.hid hA
    have Hev := Lib.hid ev
    have Hrl := Lib.hid hrl
    have Hjv := Lib.hid hjv
    clear hrl ehv sep1 sep2 sep3 hrowA hA ev ho1 hown1 hm1 hF1 hH1 hvs1 hjv
    generalize hrv : rows1.getD way.toNat [] = rowv at *
    have Hrv := Lib.hid hrv; clear hrv
    have Hn0 := Lib.hid n0
    have Hn1 := Lib.hid n1
    have Hnf := Lib.hid nf
    have Hb1 := Lib.hid b1
    have Hb4 := Lib.hid b4
    unfold maxLen at hq2
    have hm4 : ln + k ≤ 400 := by omega
    generalize hmk : ln + k = m at *
    have Hmk := Lib.hid hmk; clear hmk
    have Hk := Lib.hid hk; clear hk
    by_cases hlt : k < ls.length
    · by_cases hlt4 : m < 400
      · obtain ⟨g, o, rfl, hc⟩ := Hfr.out.src.at_ (i := k) (by rw [Hfr.out.len]; omega) undef
        have Hbyt := Lib.hid (Hfr.out.byt k (by omega))
        have Hsc := Lib.hid (sendK_succ c way.toNat ls k hj (show k < ls.length by omega))
        generalize fs.getD k undef = f at *
        generalize ls.getD k [] = lf at *
        obtain ⟨Af, cf, ef, e1, e2, e3⟩ := Hbyt.out
        subst ef
        have Hsrc := Lib.hid e3
        have Hlf := Lib.hid e2
        clear e1 e2 e3
        have hlq : lf.length = (lf.map (Value.int .u8)).length := by simp
        have T0 := Lib.hid hlq
        have T1 := Lib.hid (show ([] : List Value).length + (lf.map (Value.int .u8)).length ≤ maxLen from by rw [List.length_nil, List.length_map]; have := Hlf.out; unfold maxLen; omega)
        have T2 := Lib.hid (show (([] : List Value).length + (lf.map (Value.int .u8)).length) * 1 ≤ 140737488355328 from by rw [List.length_nil, List.length_map]; have := Hlf.out; omega)
        have T3 := Lib.hid (show ∀ u ∈ lf.map (Value.int .u8), u.oneCell' = true from fun u hu => by obtain ⟨x, _, rfl⟩ := List.mem_map.1 hu; rfl)
        clear hlq
        go_wp2_with fail
        go_quiet (fail)
        go_wp2_with (at_builtin; refine wpList_append_row _ rfl (.tmp 52) (.tmp 57) 26 5 rfl byteInfo rfl Try.underlying26 (.slice none 0 0) [] rfl (Row.nil_ _ _) Af lf.length cf (lf.map (Value.int .u8)) rfl T0.out (Hsrc.out.only ((Only.refl Non _).drewN _) fun _ _ _ _ => id) T3.out T1.out T2.out ?_
                     intro v1 w1 hrow1 hgrow1 hown1 _
                     rw [List.nil_append] at hrow1
                     have hgr1 : Only Non _ w1 := hgrow1.mono fun b hb => (ownB_none hb).elim
                     have hW1 : Only Non wr w1 := ((Only.refl Non _).drewN _).trans hgr1
                     have Hbv := Lib.hid (hrow1.byt Hlf.out)
                     have Hnew := Lib.hid (show ∀ x, ownB v1 x → wr.heap.size ≤ x ∧ ∃ cs, Box w1 x 5 cs from fun x hx => ⟨(hown1 x hx).elim (fun h => (ownB_none h).elim) (fun h => h), hrow1.box hx⟩)
                     obtain ⟨Av, cv, hv', _, _⟩ := hrow1.shape
                     have Hov := Lib.hid hW1
                     have m0 := hW1.cell Hn0.out id
                     have m1 := hW1.cell Hn1.out id
                     have m2 := hW1.free Hn1.out id Hnf.out
                     have m3 := hW1.cell Hb1.out id
                     have m4 := hW1.cell Hb4.out id
                     clear hrow1 hgrow1 hown1 hgr1 hW1
                     generalize (List.map (Value.int .u8) lf).length = q at *
                     subst hv')
        refine wp_region_tail (S := fun w' => w'.cell? ⟨nb, 0, none⟩ = some (.slice (some ⟨wb1, 0, none⟩) (List.length c) cp1) ∧ w'.cell? ⟨w.heap.size, 1, none⟩ = some (.int .i64 way) ∧ w'.cell? ⟨wb1, way.toNat, none⟩ = some (.slice A1 m cq1)) 17 (by kernel_rfl) (by kernel_rfl) ?_ ?_
        · first | go_keep | (refine ⟨?_, ?_, ?_⟩ <;> first | assumption | (simp [*]; done))
        intro hSS
        refine wpHd_take (i := 0) (v := ?_) (by kernel_rfl) rfl (by kernel_rfl) (fun _ _ _ h => h) (Or.inl ⟨by rfl, ?_⟩) (by assumption) ?_
        rotate_left
        · intro w hSw; (try dsimp only at hSw); go_simp; (try with_reducible rfl)
        try simp only [Act.put, List.getElem_toArray, List.getElem_cons_succ, List.getElem_cons_zero, List.setIfInBounds_toArray, List.set_cons_zero, List.set_cons_succ]
        refine wpHd_take (i := 1) (v := ?_) (by kernel_rfl) rfl (by kernel_rfl) (fun _ _ _ h => h) (Or.inl ⟨by rfl, ?_⟩) (by assumption) ?_
        rotate_left
        · intro w hSw; (try dsimp only at hSw); go_simp; (try with_reducible rfl)
        try simp only [Act.put, List.getElem_toArray, List.getElem_cons_succ, List.getElem_cons_zero, List.setIfInBounds_toArray, List.set_cons_zero, List.set_cons_succ]
        refine wpHd_take (i := 2) (v := ?_) (by kernel_rfl) rfl (by kernel_rfl) (fun _ _ _ h => h) (Or.inl ⟨by rfl, ?_⟩) (by assumption) ?_
        rotate_left
        · intro w hSw; (try dsimp only at hSw); go_simp; (try with_reducible rfl)
        try simp only [Act.put, List.getElem_toArray, List.getElem_cons_succ, List.getElem_cons_zero, List.setIfInBounds_toArray, List.set_cons_zero, List.set_cons_succ]
        refine wpHd_take (i := 3) (v := ?_) (by kernel_rfl) rfl (by kernel_rfl) (fun _ _ _ h => h) (Or.inl ⟨by rfl, ?_⟩) (by assumption) ?_
        rotate_left
        · intro w hSw; (try dsimp only at hSw); go_simp; (try with_reducible rfl)
        try simp only [Act.put, List.getElem_toArray, List.getElem_cons_succ, List.getElem_cons_zero, List.setIfInBounds_toArray, List.set_cons_zero, List.set_cons_succ]
        refine wpHd_take (i := 4) (v := ?_) (by kernel_rfl) rfl (by kernel_rfl) (fun _ _ _ h => h) (Or.inl ⟨by rfl, ?_⟩) (by assumption) ?_
        rotate_left
        · intro w hSw; (try dsimp only at hSw); go_simp; (try with_reducible rfl)
        try simp only [Act.put, List.getElem_toArray, List.getElem_cons_succ, List.getElem_cons_zero, List.setIfInBounds_toArray, List.set_cons_zero, List.set_cons_succ]
        refine wpHd_take (i := 5) (v := ?_) (by kernel_rfl) rfl (by kernel_rfl) (fun _ _ _ h => h) (Or.inl ⟨by rfl, ?_⟩) (by assumption) ?_
        rotate_left
        · intro w hSw; (try dsimp only at hSw); go_simp; (try with_reducible rfl)
        try simp only [Act.put, List.getElem_toArray, List.getElem_cons_succ, List.getElem_cons_zero, List.setIfInBounds_toArray, List.set_cons_zero, List.set_cons_succ]
        refine wpHd_take (i := 6) (v := ?_) (by kernel_rfl) rfl (by kernel_rfl) (fun _ _ _ h => h) (Or.inl ⟨by rfl, ?_⟩) (by assumption) ?_
        rotate_left
        · intro w hSw; (try dsimp only at hSw); go_simp; (try with_reducible rfl)
        try simp only [Act.put, List.getElem_toArray, List.getElem_cons_succ, List.getElem_cons_zero, List.setIfInBounds_toArray, List.set_cons_zero, List.set_cons_succ]
        refine wpHd_take (i := 7) (v := ?_) (by kernel_rfl) rfl (by kernel_rfl) (fun _ _ _ h => h) (Or.inl ⟨by rfl, ?_⟩) (by assumption) ?_
        rotate_left
        · intro w hSw; (try dsimp only at hSw); go_simp; (try with_reducible rfl)
        try simp only [Act.put, List.getElem_toArray, List.getElem_cons_succ, List.getElem_cons_zero, List.setIfInBounds_toArray, List.set_cons_zero, List.set_cons_succ]
        refine wpHd_take (i := 8) (v := ?_) (by kernel_rfl) rfl (by kernel_rfl) (fun _ _ _ h => h) (Or.inl ⟨by rfl, ?_⟩) (by assumption) ?_
        rotate_left
        · intro w hSw; (try dsimp only at hSw); go_simp; (try with_reducible rfl)
        try simp only [Act.put, List.getElem_toArray, List.getElem_cons_succ, List.getElem_cons_zero, List.setIfInBounds_toArray, List.set_cons_zero, List.set_cons_succ]
        refine wpHd_take (i := 9) (v := ?_) (by kernel_rfl) rfl (by kernel_rfl) (fun _ _ _ h => h) (Or.inl ⟨by rfl, ?_⟩) (by assumption) ?_
        rotate_left
        · intro w hSw; (try dsimp only at hSw); go_simp; (try with_reducible rfl)
        try simp only [Act.put, List.getElem_toArray, List.getElem_cons_succ, List.getElem_cons_zero, List.setIfInBounds_toArray, List.set_cons_zero, List.set_cons_succ]
        refine wpHd_take (i := 10) (v := ?_) (by kernel_rfl) rfl (by kernel_rfl) (fun _ _ _ h => h) (Or.inl ⟨by rfl, ?_⟩) (by assumption) ?_
        rotate_left
        · intro w hSw; (try dsimp only at hSw); go_simp; (try with_reducible rfl)
        try simp only [Act.put, List.getElem_toArray, List.getElem_cons_succ, List.getElem_cons_zero, List.setIfInBounds_toArray, List.set_cons_zero, List.set_cons_succ]
        refine wpHd_take (i := 11) (v := ?_) (by kernel_rfl) rfl (by kernel_rfl) (fun _ _ _ h => h) (Or.inl ⟨by rfl, ?_⟩) (by assumption) ?_
        rotate_left
        · intro w hSw; (try dsimp only at hSw); go_simp; (try with_reducible rfl)
        try simp only [Act.put, List.getElem_toArray, List.getElem_cons_succ, List.getElem_cons_zero, List.setIfInBounds_toArray, List.set_cons_zero, List.set_cons_succ]
        refine wpHd_take (i := 12) (v := ?_) (by kernel_rfl) rfl (by kernel_rfl) (fun _ _ _ h => h) (Or.inl ⟨by rfl, ?_⟩) (by assumption) ?_
        rotate_left
        · intro w hSw; (try dsimp only at hSw); go_simp; (try with_reducible rfl)
        try simp only [Act.put, List.getElem_toArray, List.getElem_cons_succ, List.getElem_cons_zero, List.setIfInBounds_toArray, List.set_cons_zero, List.set_cons_succ]
        refine wpHd_take (i := 13) (v := ?_) (by kernel_rfl) rfl (by kernel_rfl) (fun _ _ _ h => h) (Or.inl ⟨by rfl, ?_⟩) (by assumption) ?_
        rotate_left
        · intro w hSw; (try dsimp only at hSw); go_simp; (try with_reducible rfl)
        try simp only [Act.put, List.getElem_toArray, List.getElem_cons_succ, List.getElem_cons_zero, List.setIfInBounds_toArray, List.set_cons_zero, List.set_cons_succ]
        refine wpHd_take (i := 14) (v := ?_) (by kernel_rfl) rfl (by kernel_rfl) (fun _ _ _ h => h) (Or.inl ⟨by rfl, ?_⟩) (by assumption) ?_
        rotate_left
        · intro w hSw; (try dsimp only at hSw); go_simp; (try with_reducible rfl)
        try simp only [Act.put, List.getElem_toArray, List.getElem_cons_succ, List.getElem_cons_zero, List.setIfInBounds_toArray, List.set_cons_zero, List.set_cons_succ]
        refine wpHd_one (i := 15) rfl (by kernel_rfl) (fun K hK => ?_)
        go_simp
        have hW := Hov.out.alloc (.cells #[.slice Av q cv] 26)
        have hrowW := Hrow.out.only hW (fun _ _ => id)
        have hsrcW := one_src w1 (.slice Av q cv) 26
        have HW := Lib.hid hW
        have n0'' := hW.cell Hn0.out id
        have n1'' := hW.cell Hn1.out id
        have q1' := hW.cell Hb1.out id
        have Q1 := Lib.hid (show rowv.length + [Value.slice Av q cv].length ≤ maxLen from by simp only [List.length_singleton, Hrl.out, maxLen]; omega)
        have Q2 := Lib.hid (show (rowv.length + [Value.slice Av q cv].length) * 24 ≤ 140737488355328 from by simp only [List.length_singleton, Hrl.out]; omega)
        clear hW
        refine hK.out _ _ ?_ (fun hSS => ?_)
        · first | go_keep | (refine ⟨?_, ?_, ?_⟩ <;> first | assumption | (simp [*]; done))
        clear hK
        try simp only [Act.put, List.getElem_toArray, List.getElem_cons_succ, List.getElem_cons_zero, List.setIfInBounds_toArray, List.set_cons_zero, List.set_cons_succ]
        refine wpHd_one (i := 16) rfl (by kernel_rfl) (fun K hK => ?_)
        refine step_append_row _ (by rfl) _ _ 22 26 (by rfl) frameInfo (by rfl) Try.underlying22 (.slice A1 m cq1) rowv (by rfl) hrowW (some ⟨w1.heap.size, 0, none⟩) 1 1 [.slice Av q cv] (by rfl) rfl hsrcW (by simp [Value.oneCell']) Q1.out Q2.out ?_
        intro v2 w2 hrow2 hgrow2 hown2 _
        obtain ⟨A2, c2, hv2, hs1, hs2⟩ := hrow2.shape
        have Hrow2 := Lib.hid hrow2
        have Hgrow2 := Lib.hid hgrow2
        have Hown2 := Lib.hid hown2
        have m0 := hgrow2.cell (HW.out.cell Hn0.out id) Hsep1.out
        have m1 := hgrow2.cell (HW.out.cell Hn1.out id) Hsep2.out
        have m2 := hgrow2.free (HW.out.cell Hn1.out id) Hsep2.out (HW.out.free Hn1.out id Hnf.out)
        have m3 := hgrow2.cell (HW.out.cell Hb1.out id) Hsep4.out
        clear hs1 hs2 hrow2 hgrow2 hown2
        generalize hne2 : (rowv ++ [Value.slice Av q cv]).length = ne at *
        clear hne2
        subst hv2
        refine hK.out _ _ ?_ (fun hSS => ?_)
        · first | go_keep | (refine ⟨?_, ?_, ?_⟩ <;> first | assumption | (simp [*]; done))
        clear hK
        try simp only [Act.put, List.getElem_toArray, List.getElem_cons_succ, List.getElem_cons_zero, List.setIfInBounds_toArray, List.set_cons_zero, List.set_cons_succ]
        refine wpHd_end (by kernel_rfl) ?_
        clear hSS hrowW hsrcW n0'' n1'' q1'
        go_wp2_with fail
        refine ⟨⟨k + 1, by have := Hmk.out; have := Hk.out; omega, by go_num, by go_num, ?_⟩, ?_⟩
        · refine NetPost.step HF1.out HH1.out Ho1.out ?_
          rw [← Hsc.out]
          have hsz := Ho1.out.size
          have hmm := Hmk.out
          refine HA.out.push (w1 := w1) (wA := (w1.alloc (.cells #[.slice Av q cv] 26)).drew) (f := .slice Av q cv) Hjv.out (Nat.le_trans Hb2.out hsz) (by rw [Hm1.out]; omega) Hov.out Hbv.out (fun x hx => .inr (Hnew.out x hx)) ((Only.refl _ _).alloc _).drew ?_ ?_ ?_ Hown1.out
          · rw [Hrv.out]; exact Hrow2.out
          · rw [Hev.out]; exact Hgrow2.out
          · rw [Hev.out]; exact Hown2.out
        · simp [intOf]; omega
      · go_wp2_with fail
        go_quiet (fail)
        go_wp2_with fail
        go_ret3
        have hke : k = min ls.length (400 - ln) := by have := Hmk.out; have := Hk.out; omega
        rw [← hke]
        exact RDoPost.no (s := k) (Hun.out _ _ (Hp.out.drew _))
    · go_wp2_with fail
      go_quiet (fail)
      go_wp2_with fail
      go_ret3
      have hke : k = min ls.length (400 - ln) := by have := Hmk.out; have := Hk.out; omega
      rw [← hke]
      exact RDoPost.no (s := k) (Hun.out _ _ (Hp.out.drew _))
end
end Go.Proofs.Ytlagccfllnhgbaa
