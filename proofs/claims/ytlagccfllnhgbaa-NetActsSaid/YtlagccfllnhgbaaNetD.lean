/- Send. -/
import Derived.Test.YtlagccfllnhgbaaNetC
import Derived.Test.YtlagccfllnhgbaaTail
namespace Go.Proofs.Ytlagccfllnhgbaa
open Go.RowKit
set_option linter.unusedVariables false
set_option linter.unusedSimpArgs false

theorem NetPost.trans {T : TypeId} {w w1 w2 : World} {base nb : Nat} {F H : Nat → Prop} {c1 c2 : Cont} (h : NetPost T base nb F H c1 w w1)
    (k : ∀ F1 H1, NetIs T w1 base nb F1 H1 c1 → NetPost T base nb F1 H1 c2 w1 w2) : NetPost T base nb F H c2 w w2 := by
  obtain ⟨F1, H1, h1, h2, h3, h4⟩ := h
  obtain ⟨F2, H2, k1, k2, k3, k4⟩ := k F1 H1 h1
  have hs := h4.size
  exact ⟨F2, H2, k1, fun x hx => (k2 x hx).elim (h2 x) fun h => .inr (by omega), fun x hx => (k3 x hx).elim (h3 x) fun h => .inr (by omega), h4.trans' k4 h2⟩

/-- A slice of frames that lies outside the blocks F. -/
structure Frs (w : World) (F : Nat → Prop) (A : Option Addr) (fs : List Value) (ls : List (List Int)) : Prop where
  len : fs.length = ls.length
  src : Src w A fs
  far : 0 < ls.length → ∀ g o, A = some ⟨g, o, none⟩ → g < w.heap.size → ¬ F g
  byt : ∀ i, i < ls.length → Byt w (fs.getD i undef) (ls.getD i [])
  bfar : ∀ i, i < ls.length → 0 < (ls.getD i []).length → ∀ k, ownB (fs.getD i undef) k → k < w.heap.size → ¬ F k
theorem Src.keep {S : Nat → Prop} {w w' : World} {A : Option Addr} {xs : List Value} (h : Src w A xs) (ho : Only S w w') (hn : 0 < xs.length → ∀ g o, A = some ⟨g, o, none⟩ → g < w.heap.size → ¬ S g) : Src w' A xs := by
  by_cases hz : 0 < xs.length
  · exact h.only ho (hn hz)
  · have : xs = [] := List.eq_nil_of_length_eq_zero (by omega)
    subst this
    exact Src.nil_ _ _
theorem Frs.only {w w' : World} {F : Nat → Prop} {A : Option Addr} {fs : List Value} {ls : List (List Int)} (h : Frs w F A fs ls) (ho : Only F w w') (hF : ∀ k, F k → k < w.heap.size) : Frs w' F A fs ls :=
  ⟨h.len, h.src.keep ho fun hz => h.far (by rw [← h.len]; exact hz), fun hz g o e _ hf => h.far hz g o e (hF g hf) hf, fun i hi => (h.byt i hi).keep ho (h.bfar i hi), fun i hi hz k hk _ hf => h.bfar i hi hz k hk (hF k hf) hf⟩

def sendN (c : Cont) (way : Int) (n : Nat) : Nat := if thereC c way then min n (400 - (c.row way.toNat).length) else 0
def sendC (c : Cont) (way : Int) (ls : List (List Int)) : Cont := if thereC c way then c.set way.toNat (c.row way.toNat ++ ls.take (sendN c way ls.length)) else c

section
set_option maxHeartbeats 2000000
theorem nsend_no (p : Option Addr) (way : Int) (l : Value) (w : World) (ht : Calls Try.prog 41 #[.pointer p, .int .i64 way] w fun e w' => e = .returned (.bool false) ∧ w = w') :
    Calls Try.prog 14 #[.pointer p, .int .i64 way, l] w fun e w' => e = .returned (.int .i64 0) ∧ w = w' := by
  have H := Lib.hid ht; clear ht
  go_enter Try.func14, Try.ntmps14
  go_wp2_with (go_at_call 41; refine H.out.mono ?_; rintro e w' ⟨rfl, rfl⟩)
  go_ret
  exact ⟨rfl, rfl⟩
def sendK (c : Cont) (j : Nat) (ls : List (List Int)) (k : Nat) : Cont := c.set j (c.row j ++ ls.take k)
theorem sendK_zero (c : Cont) (j : Nat) (ls : List (List Int)) (hj : j < c.length) : sendK c j ls 0 = c := by
  simp [sendK, Cont.row, hj]
theorem sendK_row (c : Cont) (j : Nat) (ls : List (List Int)) (k : Nat) (hj : j < c.length) : (sendK c j ls k).row j = c.row j ++ ls.take k := by
  simp only [sendK]; rw [Cont.row_set, if_pos ⟨rfl, hj⟩]
theorem sendK_succ (c : Cont) (j : Nat) (ls : List (List Int)) (k : Nat) (hj : j < c.length) (hk : k < ls.length) :
    (sendK c j ls k).set j ((sendK c j ls k).row j ++ [ls.getD k []]) = sendK c j ls (k + 1) := by
  rw [sendK_row c j ls k hj]
  simp only [sendK, List.set_set, List.append_assoc]
  rw [List.take_succ_eq_append_getElem hk]
  simp [hk]
def SdRel (base nb : Nat) (F H : Nat → Prop) (c : Cont) (j : Nat) (ls : List (List Int)) (sent : Nat) (w : World) (i : Value) (wr : World) : Prop :=
  ∃ k : Nat, k ≤ sent ∧ i = .int .i64 k ∧ NetPost 75 base nb F H (sendK c j ls k) w wr
theorem nsend_round (base nb : Nat) (F H : Nat → Prop) (c : Cont) (j : Nat) (w w1 w2 : World) (l : List Int) (h : NetIs 75 w base nb F H c) (hj : j < c.length) : True := trivial
theorem nsend_yes (base nb : Nat) (F H : Nat → Prop) (c : Cont) (way : Int) (A : Option Addr) (cp : Nat) (fs : List Value) (ls : List (List Int)) (w : World) (h : NetIs 75 w base nb F H c) (hbase : base ≤ w.heap.size)
    (hl : Frs w F A fs ls) (hlen : ls.length ≤ 1000000) (hcp : ls.length ≤ cp) (hcm : cp ≤ maxLen) (hw0 : 0 ≤ way) (hw1 : way < c.length) :
    Calls Try.prog 14 #[.pointer (some ⟨nb, 0, none⟩), .int .i64 way, .slice A ls.length cp] w fun e w' =>
      e = .returned (.int .i64 (min ls.length (400 - (c.row way.toNat).length) : Nat)) ∧ NetPost 75 base nb F H (sendK c way.toNat ls (min ls.length (400 - (c.row way.toNat).length))) w w' := by
  have ht := nthere_any nb base F H c way w h
  rw [show thereC c way = true from by simp [thereC, hw0, hw1]] at ht
  have Ht := Lib.hid ht; clear ht
  have hfF : ∀ k, F k → k < w.heap.size := by obtain ⟨hv, vs, rows, h⟩ := h; exact fun k hk => h.flt hk
  have HF := Lib.hid hfF; clear hfF
  have hj : way.toNat < c.length := by omega
  have hpost := NetPost.same h (Only.refl Non w)
  rw [← sendK_zero c way.toNat ls hj] at hpost
  have Hpost := Lib.hid hpost; clear hpost
  have Hl := Lib.hid hl; clear hl
  obtain ⟨hv, vs, rows, h⟩ := h
  have hc32 := h.c32
  obtain ⟨wb, cpw, A0, cq0, _, h0, _, h1, _, hq1, hq2⟩ := h.way (j := way.toNat) (by rw [← h.nc]; exact hj)
  have h400 := h.c400 way.toNat (by rw [← h.nc]; exact hj)
  have hvl : vs.length = c.length := h.nc.symm
  clear h
  generalize vs.length = W at *
  subst hvl
  unfold maxLen at *
  generalize hln : (c.row way.toNat).length = ln at *
  have Hln := Lib.hid hln; clear hln
  go_enter Try.func14, Try.ntmps14
  go_wp2_with (go_at_call 41; refine Ht.out.mono ?_; rintro e w' ⟨rfl, rfl⟩)
  all_goals
    go_loopw [30] (fun i wr => SdRel base nb F H c way.toNat ls (min ls.length (400 - ln)) w i wr) (fun i _ => ls.length - (intOf i).toNat)
    case atStart => exact ⟨0, Nat.zero_le _, rfl, Hpost.out⟩
    case round =>
      clear h0 h1
      obtain ⟨k, hk, rfl, F1, H1, hn1, hF1, hH1, ho1⟩ := hrel
      by_cases hlt : k < min ls.length (400 - ln)
      · have hfr := Hl.out.only ho1 HF.out
        obtain ⟨g, o, rfl, hc⟩ := hfr.src.at_ (i := k) (by rw [hfr.len]; omega) undef
        have Hbyt := Lib.hid (hfr.byt k (by omega))
        have hsc := sendK_succ c way.toNat ls k hj (show k < ls.length by omega)
        have Hsc := Lib.hid hsc; clear hsc
        generalize fs.getD k undef = f at *
        generalize ls.getD k [] = lf at *
        have Hfr := Lib.hid hfr; clear hfr
        go_wp2_with fail
        obtain ⟨hv1, vs1, rows1, hA⟩ := hn1
        have hvs1 : vs1.length = c.length := by rw [← hA.nc]; simp [sendK]
        have hjv : way.toNat < vs1.length := by omega
        obtain ⟨wb1, cp1, A1, cq1, ehv, n0, ev, n1, nf, hq1, hq2⟩ := hA.way hjv
        have hm1 : ((sendK c way.toNat ls k).row way.toNat).length = ln + k := by
          rw [sendK_row c _ ls k hj, List.length_append, Hln.out, List.length_take]; omega
        obtain ⟨sep1, sep2, sep3⟩ := hA.sep hjv
        have hown1 : ownB hv1 wb1 := by rw [ehv]; exact ownB_slice.2 rfl
        have Hown1 := Lib.hid hown1
        have Hm1 := Lib.hid hm1
        have hrowA := hA.row _ hjv
        have hrl := hA.clen _ hjv
        rw [hm1] at ev n1 hq1 hrl
        rw [ev] at sep1 sep2 hrowA
        rw [hvs1] at n0
        have Hrow := Lib.hid hrowA
        have Ht1 := Lib.hid (sep2 wb1 hown1)
        have Ht2 := Lib.hid sep1
        have hne : nb ≠ wb1 := sep3 wb1 hown1
        have HA := Lib.hid hA
        have Hev := Lib.hid ev
        have Hho1 := Lib.hid ho1
        have Hrl := Lib.hid hrl
        clear hrl ehv sep1 sep2 sep3 hrowA hA ev ho1 hown1 hm1
        generalize hrv : rows1.getD way.toNat [] = rowv at *
        have Hrv := Lib.hid hrv; clear hrv
        refine wp_region_tail (S := fun w' => w'.cell? ⟨nb, 0, none⟩ = some (.slice (some ⟨wb1, 0, none⟩) (List.length c) cp1) ∧ w'.cell? ⟨wb1, way.toNat, none⟩ = some (.slice A1 (ln + k) cq1)) 16 (by kernel_rfl) (by kernel_rfl) ?_ ?_
        · first | go_keep | (refine ⟨?_, ?_⟩ <;> first | assumption | (simp [*]; done))
        intro hSS
        refine wpHd_take (i := 0) (v := ?_) (by kernel_rfl) rfl (by kernel_rfl) (fun _ _ _ h => h) (Or.inl ⟨by rfl, ?_⟩) (by assumption) ?_
        rotate_left
        · intro w hSw; (try dsimp only at hSw); go_simp; (try with_reducible rfl)
        try simp only [Act.put, List.setIfInBounds_toArray, List.set_cons_zero, List.set_cons_succ]
        refine wpHd_take (i := 1) (v := ?_) (by kernel_rfl) rfl (by kernel_rfl) (fun _ _ _ h => h) (Or.inl ⟨by rfl, ?_⟩) (by assumption) ?_
        rotate_left
        · intro w hSw; (try dsimp only at hSw); go_simp; (try with_reducible rfl)
        try simp only [Act.put, List.setIfInBounds_toArray, List.set_cons_zero, List.set_cons_succ]
        refine wpHd_take (i := 2) (v := ?_) (by kernel_rfl) rfl (by kernel_rfl) (fun _ _ _ h => h) (Or.inl ⟨by rfl, ?_⟩) (by assumption) ?_
        rotate_left
        · intro w hSw; (try dsimp only at hSw); go_simp; (try with_reducible rfl)
        try simp only [Act.put, List.setIfInBounds_toArray, List.set_cons_zero, List.set_cons_succ]
        refine wpHd_take (i := 3) (v := ?_) (by kernel_rfl) rfl (by kernel_rfl) (fun _ _ _ h => h) (Or.inl ⟨by rfl, ?_⟩) (by assumption) ?_
        rotate_left
        · intro w hSw; (try dsimp only at hSw); go_simp; (try with_reducible rfl)
        try simp only [Act.put, List.setIfInBounds_toArray, List.set_cons_zero, List.set_cons_succ]
        refine wpHd_take (i := 4) (v := ?_) (by kernel_rfl) rfl (by kernel_rfl) (fun _ _ _ h => h) (Or.inl ⟨by rfl, ?_⟩) (by assumption) ?_
        rotate_left
        · intro w hSw; (try dsimp only at hSw); go_simp; (try with_reducible rfl)
        try simp only [Act.put, List.setIfInBounds_toArray, List.set_cons_zero, List.set_cons_succ]
        refine wpHd_take (i := 5) (v := ?_) (by kernel_rfl) rfl (by kernel_rfl) (fun _ _ _ h => h) (Or.inl ⟨by rfl, ?_⟩) (by assumption) ?_
        rotate_left
        · intro w hSw; (try dsimp only at hSw); go_simp; (try with_reducible rfl)
        try simp only [Act.put, List.setIfInBounds_toArray, List.set_cons_zero, List.set_cons_succ]
        refine wpHd_take (i := 6) (v := ?_) (by kernel_rfl) rfl (by kernel_rfl) (fun _ _ _ h => h) (Or.inl ⟨by rfl, ?_⟩) (by assumption) ?_
        rotate_left
        · intro w hSw; (try dsimp only at hSw); go_simp; (try with_reducible rfl)
        try simp only [Act.put, List.setIfInBounds_toArray, List.set_cons_zero, List.set_cons_succ]
        refine wpHd_take (i := 7) (v := ?_) (by kernel_rfl) rfl (by kernel_rfl) (fun _ _ _ h => h) (Or.inl ⟨by rfl, ?_⟩) (by assumption) ?_
        rotate_left
        · intro w hSw; (try dsimp only at hSw); go_simp; (try with_reducible rfl)
        try simp only [Act.put, List.setIfInBounds_toArray, List.set_cons_zero, List.set_cons_succ]
        refine wpHd_take (i := 8) (v := ?_) (by kernel_rfl) rfl (by kernel_rfl) (fun _ _ _ h => h) (Or.inl ⟨by rfl, ?_⟩) (by assumption) ?_
        rotate_left
        · intro w hSw; (try dsimp only at hSw); go_simp; (try with_reducible rfl)
        try simp only [Act.put, List.setIfInBounds_toArray, List.set_cons_zero, List.set_cons_succ]
        refine wpHd_take (i := 9) (v := ?_) (by kernel_rfl) rfl (by kernel_rfl) (fun _ _ _ h => h) (Or.inl ⟨by rfl, ?_⟩) (by assumption) ?_
        rotate_left
        · intro w hSw; (try dsimp only at hSw); go_simp; (try with_reducible rfl)
        try simp only [Act.put, List.setIfInBounds_toArray, List.set_cons_zero, List.set_cons_succ]
        refine wpHd_take (i := 10) (v := ?_) (by kernel_rfl) rfl (by kernel_rfl) (fun _ _ _ h => h) (Or.inl ⟨by rfl, ?_⟩) (by assumption) ?_
        rotate_left
        · intro w hSw; (try dsimp only at hSw); go_simp; (try with_reducible rfl)
        try simp only [Act.put, List.setIfInBounds_toArray, List.set_cons_zero, List.set_cons_succ]
        refine wpHd_take (i := 11) (v := ?_) (by kernel_rfl) rfl (by kernel_rfl) (fun _ _ _ h => h) (Or.inl ⟨by rfl, ?_⟩) (by assumption) ?_
        rotate_left
        · intro w hSw; (try dsimp only at hSw); go_simp; (try with_reducible rfl)
        try simp only [Act.put, List.setIfInBounds_toArray, List.set_cons_zero, List.set_cons_succ]
        refine wpHd_take (i := 12) (v := ?_) (by kernel_rfl) rfl (by kernel_rfl) (fun _ _ _ h => h) (Or.inl ⟨by rfl, ?_⟩) (by assumption) ?_
        rotate_left
        · intro w hSw; (try dsimp only at hSw); go_simp; (try with_reducible rfl)
        try simp only [Act.put, List.setIfInBounds_toArray, List.set_cons_zero, List.set_cons_succ]
        refine wpHd_one (i := 13) rfl (by kernel_rfl) (fun K hK => ?_)
        go_simp
        refine (clone_any f _ _ (Hbyt.out.only (Only.drew (Only.refl Non _)) (fun _ _ => id))).mono ?_
        rintro e w1 ⟨v, hve, hbv, hov, hnew⟩
        have Hbv := Lib.hid hbv
        have Hnew := Lib.hid hnew
        obtain ⟨Av, cv, hv', hb1, hb2, hb3⟩ := hbv
        clear hb1 hb2 hb3 hnew
        subst hv' hve
        have Hov := Lib.hid ((Only.drew (Only.refl Non wr)).trans hov)
        have n0' := hov.cell n0 id
        have n1' := hov.cell n1 id
        have n2' := hov.free n1 id nf
        refine hK.out _ _ ?_ (fun hSS => ?_)
        · first | go_keep | (refine ⟨?_, ?_⟩ <;> first | assumption | (simp [*]; done))
        clear hK
        try simp only [Act.put, List.setIfInBounds_toArray, List.set_cons_zero, List.set_cons_succ]
        refine wpHd_one (i := 14) rfl (by kernel_rfl) (fun K hK => ?_)
        go_simp
        have hW : Only Non wr (w1.alloc (.cells #[.slice Av lf.length cv] 26)) := ((Only.drew (Only.refl Non wr)).trans hov).alloc _
        have hrowW := Hrow.out.only hW (fun _ _ => id)
        have hsrcW := one_src w1 (.slice Av lf.length cv) 26
        have HW := Lib.hid hW
        have q1 : rowv.length + [Value.slice Av lf.length cv].length ≤ maxLen := by simp only [List.length_singleton, Hrl.out, maxLen]; omega
        have q2 : (rowv.length + [Value.slice Av lf.length cv].length) * 24 ≤ 140737488355328 := by simp only [List.length_singleton, Hrl.out]; omega
        have Q1 := Lib.hid q1
        have Q2 := Lib.hid q2
        clear q1 q2 hW
        refine hK.out _ _ ?_ (fun hSS => ?_)
        · first | go_keep | (refine ⟨?_, ?_⟩ <;> first | assumption | (simp [*]; done))
        clear hK
        try simp only [Act.put, List.setIfInBounds_toArray, List.set_cons_zero, List.set_cons_succ]
        refine wpHd_one (i := 15) rfl (by kernel_rfl) (fun K hK => ?_)
        refine step_append_row _ (by rfl) _ _ 22 26 (by rfl) frameInfo (by rfl) Try.underlying22 (.slice A1 (ln + k) cq1) rowv (by rfl) hrowW (some ⟨w1.heap.size, 0, none⟩) 1 1 [.slice Av lf.length cv] (by rfl) rfl hsrcW (by simp [Value.oneCell']) Q1.out Q2.out ?_
        intro v2 w2 hrow2 hgrow2 hown2 _
        obtain ⟨A2, c2, hv2, hs1, hs2⟩ := hrow2.shape
        have Hrow2 := Lib.hid hrow2
        have Hgrow2 := Lib.hid hgrow2
        have Hown2 := Lib.hid hown2
        have m0 := hgrow2.cell (HW.out.cell n0 id) Ht2.out
        have m1 := hgrow2.cell (HW.out.cell n1 id) Ht1.out
        have m2 := hgrow2.free (HW.out.cell n1 id) Ht1.out (HW.out.free n1 id nf)
        clear hs1 hs2 hrow2 hgrow2 hown2
        subst hv2
        refine hK.out _ _ ?_ (fun hSS => ?_)
        · first | go_keep | (refine ⟨?_, ?_⟩ <;> first | assumption | (simp [*]; done))
        clear hK
        try simp only [Act.put, List.setIfInBounds_toArray, List.set_cons_zero, List.set_cons_succ]
        refine wpHd_end (by kernel_rfl) ?_
        clear hrowW hsrcW n0' n1' n2' hSS hov
        go_wp2
        refine ⟨⟨k + 1, by omega, by go_num, ?_⟩, ?_⟩
        · refine NetPost.step hF1 hH1 Hho1.out ?_
          rw [← Hsc.out]
          have hsz := Hho1.out.size
          refine HA.out.push (w1 := w1) (wA := w1.alloc (.cells #[.slice Av lf.length cv] 26)) (f := .slice Av lf.length cv) (by omega) (by omega) (by rw [Hm1.out]; omega) Hov.out Hbv.out (fun x hx => .inr (Hnew.out x hx)) ((Only.refl _ _).alloc _) ?_ ?_ ?_ Hown1.out
          · rw [Hrv.out]; have := Hrow2.out; rw [show (rowv ++ [Value.slice Av lf.length cv]).length = rowv.length + 1 from by simp] at this; exact this
          · rw [Hev.out]; exact Hgrow2.out
          · rw [Hev.out]; have := Hown2.out; rw [show (rowv ++ [Value.slice Av lf.length cv]).length = rowv.length + 1 from by simp] at this; exact this
        · simp [intOf]; omega
      · have Hp := Lib.hid (show NetPost 75 base nb F H (sendK c way.toNat ls k) w wr from ⟨F1, H1, hn1, hF1, hH1, ho1⟩)
        have hke : k = min ls.length (400 - ln) := by omega
        have Hke := Lib.hid hke
        clear hn1 hF1 hH1 ho1 hke
        go_wp2_with fail
        go_ret
        exact ⟨congrArg (fun z => Ending.returned (.int .i64 z)) (by omega), by rw [← Hke.out]; exact Hp.out⟩
end
end Go.Proofs.Ytlagccfllnhgbaa
