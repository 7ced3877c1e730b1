/- Several texts, one behind the other: MqB. -/
import Derived.Test.YtodephhlhdbeoaaGreatM20
import Derived.Test.YtodephhlhdbeoaaGreatM21
import Derived.Test.YtodephhlhdbeoaaGreatM7
import Derived.Deep.CutRange
import Derived.Test.YtodephhlhdbeoaaGreatM16
namespace Go.Proofs.YtodephhlhdbeoaaGreat
open Go.RowKit Go.ChangeShapes Go.WideShapes
set_option linter.unusedVariables false
set_option linter.unusedSimpArgs false
theorem bitLenAux_le : ∀ (f x : Nat), Lib.bitLenAux f x ≤ f
  | 0, x => by simp [Lib.bitLenAux]
  | f + 1, x => by
    unfold Lib.bitLenAux
    split
    · omega
    · have := bitLenAux_le f (x / 2); omega
theorem bitLen_le (x : Nat) : Lib.bitLen x ≤ 64 := bitLenAux_le 64 x
theorem MqB.drew {w : World} {p g eb : Nat} {P : MqP} {s : MqS} (h : MqB w p g eb P s) : MqB w.drew p g eb P s := h.only (F := Non) ((Only.refl Non w).drew) id id id
section
set_option maxHeartbeats 4000000
set_option maxRecDepth 100000
variable {w : World} {p g eb : Nat} {P : MqP} {s : MqS}
theorem mq_ghost (h : MqB w p g eb P s) : Calls Tryz.prog 361 #[.pointer (some ⟨p, 0, none⟩)] w fun e w' => e = .returned (.int .i64 P.q) ∧ w = w' := by
  have x2 := h.m.q
  clear h
  go_enter Tryz.func361, Tryz.ntmps361
  go_wp2_with fail
  go_ret
  exact ⟨rfl, rfl⟩
theorem mq_has (b : Int) (h : MqB w p g eb P s) (hd : Djl (P.q + 1) s.S) : Calls Tryz.prog 353 #[.pointer (some ⟨p, 0, none⟩), .int .i64 b] w fun e w' => e = .returned (.bool (decide (b ∈ mqAll P s))) ∧ w = w' := by
  have x0 := h.m.ptr
  have HG := Lib.hid (mq_ghost h)
  by_cases hb : ∃ i, b ∈ s.S i
  · obtain ⟨i, hi⟩ := hb
    have HO := Lib.hid (of_in (i := i) w h.sp hi)
    have him : i < P.q + 1 := by
      rcases Nat.lt_or_ge i (P.q + 1) with h | h
      · exact h
      · rw [hd.out i h] at hi; cases hi
    by_cases hq : i < P.q
    · rw [decide_eq_true (mem_all.2 ⟨i, hq, hi⟩)]
      have hqb : (i : Int) < P.q := by omega
      clear h hi hd him hq
      go_enter Tryz.func353, Tryz.ntmps353
      go_wp2_with (first | (go_at_call 295; refine HO.out.mono ?_; rintro e W1 ⟨rfl, rfl⟩) | (go_at_call 361; refine HG.out.mono ?_; rintro e W1 ⟨rfl, rfl⟩))
      go_ret
      exact ⟨rfl, rfl⟩
    · have hn : b ∉ mqAll P s := fun hm => by
        obtain ⟨j, hj, h2⟩ := mem_all.1 hm
        have := hd.dj hi h2
        omega
      rw [decide_eq_false hn]
      have hqb : ¬ (i : Int) < P.q := by omega
      have hqd : decide (i < P.q) = false := decide_eq_false hq
      have hqn : P.q ≤ i := by omega
      clear h hi hd him hq hn
      go_enter Tryz.func353, Tryz.ntmps353
      go_wp2_with (first | (go_at_call 295; refine HO.out.mono ?_; rintro e W1 ⟨rfl, rfl⟩) | (go_at_call 361; refine HG.out.mono ?_; rintro e W1 ⟨rfl, rfl⟩))
      go_ret
      exact ⟨rfl, rfl⟩
  · have HO := Lib.hid (of_no w h.sp fun i hi => hb ⟨i, hi⟩)
    have hn : b ∉ mqAll P s := fun hm => by
      obtain ⟨j, hj, h2⟩ := mem_all.1 hm
      exact hb ⟨j, h2⟩
    rw [decide_eq_false hn]
    clear h hd hb hn
    go_enter Tryz.func353, Tryz.ntmps353
    go_wp2_with (first | (go_at_call 295; refine HO.out.mono ?_; rintro e W1 ⟨rfl, rfl⟩) | (go_at_call 361; refine HG.out.mono ?_; rintro e W1 ⟨rfl, rfl⟩))
    go_ret
    exact ⟨rfl, rfl⟩
theorem mq_renew {n : Nat} (hn : n < 64) (hP : P.Ok) (h : MqB w p g eb P s) (h0 : 0 ≤ s.now) (h1 : s.now ≤ 2000000000) :
    Calls Tryz.prog 362 #[.pointer (some ⟨p, 0, none⟩), .int .i64 n] w fun e w' => e = .returned (.tuple #[]) ∧ MqB w' p g eb P { s with exp := updI s.exp n (s.now + P.life) } ∧ Only (Just p) w w' := by
  have x3 : w.drew.cell? ⟨p, 3, none⟩ = some (.int .i64 P.life) := h.m.life
  have x5 : w.drew.cell? ⟨p, 5, none⟩ = some (.int .i64 s.now) := h.m.now
  have xe : w.drew.cell? ⟨p, 70 + n, none⟩ = some (.int .i64 (s.exp n)) := h.m.exp hn
  have fe : w.drew.frozen? ⟨p, 70 + n, none⟩ = false := Box.free h.m _
  have HH := Lib.hid h
  have hl := hP.l100
  have hw : IntKind.i64.wrap (s.now + P.life) = s.now + P.life := by rw [IntKind.wrap_i64]; omega
  have HN := Lib.hid hn
  have hn1 : (n : Int) < 64 := by omega
  have hn0 : (0 : Int) ≤ n := by omega
  clear h hP
  go_enter Tryz.func362, Tryz.ntmps362
  refine wp_region_tail (S := (fun w' : World => w' = w.drew)) 15 (by kernel_rfl) (by kernel_rfl) ?_ ?_
  · rfl
  intro hSS
  refine wpHd_take (i := 0) (v := ?_) (by kernel_rfl) rfl (by kernel_rfl) (fun _ _ _ h => h) (.inl ⟨by rfl, ?_⟩) hSS ?_
  rotate_left
  · intro w hSw; (try dsimp only at hSw); go_simp; (try with_reducible rfl)
  refine wpHd_take (i := 1) (v := ?_) (by kernel_rfl) rfl (by kernel_rfl) (fun _ _ _ h => h) (.inl ⟨by rfl, ?_⟩) hSS ?_
  rotate_left
  · intro w hSw; (try dsimp only at hSw); go_simp; (try with_reducible rfl)
  refine wpHd_take (i := 2) (v := ?_) (by kernel_rfl) rfl (by kernel_rfl) (fun _ _ _ h => h) (.inl ⟨by rfl, ?_⟩) hSS ?_
  rotate_left
  · intro w hSw; (try dsimp only at hSw); go_simp; (try with_reducible rfl)
  refine wpHd_take (i := 3) (v := ?_) (by kernel_rfl) rfl (by kernel_rfl) (fun _ _ _ h => h) (.inl ⟨by rfl, ?_⟩) hSS ?_
  rotate_left
  · intro w hSw; (try dsimp only at hSw); go_simp; (try with_reducible rfl)
  refine wpHd_take (i := 4) (v := ?_) (by kernel_rfl) rfl (by kernel_rfl) (fun _ _ _ h => h) (.inl ⟨by rfl, ?_⟩) hSS ?_
  rotate_left
  · intro w hSw; (try dsimp only at hSw); go_simp; (try with_reducible rfl)
  try simp only [Act.put, List.getElem_toArray, List.getElem_cons_succ, List.getElem_cons_zero, List.setIfInBounds_toArray, List.set_cons_zero, List.set_cons_succ]
  refine wpHd_take (i := 5) (v := ?_) (by kernel_rfl) rfl (by kernel_rfl) (fun _ _ _ h => h) (.inl ⟨by rfl, ?_⟩) hSS ?_
  rotate_left
  · intro w hSw; (try dsimp only at hSw); go_simp; (try with_reducible rfl)
  refine wpHd_take (i := 6) (v := ?_) (by kernel_rfl) rfl (by kernel_rfl) (fun _ _ _ h => h) (.inl ⟨by rfl, ?_⟩) hSS ?_
  rotate_left
  · intro w hSw; (try dsimp only at hSw); go_simp; (try with_reducible rfl)
  refine wpHd_take (i := 7) (v := ?_) (by kernel_rfl) rfl (by kernel_rfl) (fun _ _ _ h => h) (.inl ⟨by rfl, ?_⟩) hSS ?_
  rotate_left
  · intro w hSw; (try dsimp only at hSw); go_simp; (try with_reducible rfl)
  refine wpHd_take (i := 8) (v := ?_) (by kernel_rfl) rfl (by kernel_rfl) (fun _ _ _ h => h) (.inl ⟨by rfl, ?_⟩) hSS ?_
  rotate_left
  · intro w hSw; (try dsimp only at hSw); go_simp; (try with_reducible rfl)
  refine wpHd_take (i := 9) (v := ?_) (by kernel_rfl) rfl (by kernel_rfl) (fun _ _ _ h => h) (.inl ⟨by rfl, ?_⟩) hSS ?_
  rotate_left
  · intro w hSw; (try dsimp only at hSw); go_simp; (try with_reducible rfl)
  try simp only [Act.put, List.getElem_toArray, List.getElem_cons_succ, List.getElem_cons_zero, List.setIfInBounds_toArray, List.set_cons_zero, List.set_cons_succ]
  refine wpHd_take (i := 10) (v := ?_) (by kernel_rfl) rfl (by kernel_rfl) (fun _ _ _ h => h) (.inl ⟨by rfl, ?_⟩) hSS ?_
  rotate_left
  · intro w hSw; (try dsimp only at hSw); go_simp; (try with_reducible rfl)
  refine wpHd_take (i := 11) (v := ?_) (by kernel_rfl) rfl (by kernel_rfl) (fun _ _ _ h => h) (.inl ⟨by rfl, ?_⟩) hSS ?_
  rotate_left
  · intro w hSw; (try dsimp only at hSw); go_simp; (try with_reducible rfl)
  refine wpHd_take (i := 12) (v := ?_) (by kernel_rfl) rfl (by kernel_rfl) (fun _ _ _ h => h) (.inl ⟨by rfl, ?_⟩) hSS ?_
  rotate_left
  · intro w hSw; (try dsimp only at hSw); go_simp; (try with_reducible rfl)
  refine wpHd_take (i := 13) (v := ?_) (by kernel_rfl) rfl (by kernel_rfl) (fun _ _ _ h => h) (.inl ⟨by rfl, ?_⟩) hSS ?_
  rotate_left
  · intro w hSw; (try dsimp only at hSw); go_simp; (try with_reducible rfl)
  refine wpHd_take (i := 14) (v := ?_) (by kernel_rfl) rfl (by kernel_rfl) (fun _ _ _ h => h) (.inl ⟨by rfl, ?_⟩) hSS ?_
  rotate_left
  · intro w hSw; (try dsimp only at hSw); go_simp; (try with_reducible rfl)
  try simp only [Act.put, List.getElem_toArray, List.getElem_cons_succ, List.getElem_cons_zero, List.setIfInBounds_toArray, List.set_cons_zero, List.set_cons_succ]
  refine wpHd_end (by kernel_rfl) ?_
  clear hSS
  go_wp2
  go_end0
  exact ⟨rfl, (HH.out.setExp HN.out _).drew, ((Only.refl (Just p) w).setCell (p := ⟨p, 70 + n, none⟩) (.inl (show Just p p from rfl)) _).drew⟩
theorem mq_place {n : Nat} (hn : n < 64) (hP : P.Ok) (h : MqB w p g eb P s) (h0 : 0 ≤ s.now) (h1 : s.now ≤ 2000000000) (ho : 1 ≤ s.often n) (ho2 : s.often n ≤ 2000000000) :
    Calls Tryz.prog 359 #[.pointer (some ⟨p, 0, none⟩), .int .i64 n] w fun e w' => e = .returned (.tuple #[]) ∧ MqB w' p g eb P (mqPlace P s n) ∧ Only (Tri p g eb) w w' := by
  have x0 := h.m.ptr
  have x2 := h.m.q
  have xo := h.m.often hn
  have hn1 : (n : Int) < 64 := by omega
  have hn0 : (0 : Int) ≤ n := by omega
  have HH := Lib.hid h
  have HN := Lib.hid hn
  have HP := Lib.hid hP
  have HNW := Lib.hid (show 0 ≤ s.now ∧ s.now ≤ 2000000000 from ⟨h0, h1⟩)
  have HL := Lib.hid (show mqQ P (s.often n) = min (Lib.bitLen (s.often n).toNat - 1) (P.q - 1) from rfl)
  have hbl : 1 ≤ Lib.bitLen (s.often n).toNat := by
    rw [Lib.bitLen_half _ (by omega) (by omega)]
    omega
  have hbl2 : Lib.bitLen (s.often n).toNat ≤ 64 := bitLen_le _
  have HBI := Lib.hid ((sh_bits_Len (s.often n) w (by omega) (by omega)).mono fun e w' (h : _ ∧ w' = w) => (⟨h.1, h.2.symm⟩ : _ ∧ w = w'))
  have HPL := Lib.hid (show mqPlace P s n = mqFront P s (mqQ P (s.often n)) n from rfl)
  generalize s.often n = om at *
  generalize Lib.bitLen om.toNat = bl at *
  clear h hP h0 h1
  go_enter Tryz.func359, Tryz.ntmps359
  go_upto_region 1 with (go_at_call 363; refine HBI.out.mono ?_; rintro e W1 ⟨rfl, rfl⟩)
  obtain ⟨k, rfl⟩ : ∃ k, bl = k + 1 := ⟨bl - 1, by omega⟩
  obtain ⟨Q1, hQ1⟩ : ∃ Q1, P.q = Q1 + 1 := ⟨P.q - 1, by have := HP.out.q1; omega⟩
  rw [show (((k + 1 : Nat) : Int) - 1) = (k : Int) by omega]
  rw [hQ1] at HL
  have hqw : IntKind.i64.wrap ((P.q : Int) - 1) = (Q1 : Int) := by have := HP.out.q8; rw [IntKind.wrap_i64]; omega
  have HQ1 := Lib.hid hQ1
  clear hQ1 xo ho ho2 hbl hbl2 HBI
  generalize (P.q : Int) = Qi at *
  have HKQ := Lib.hid (show mqQ P om = min k Q1 by rw [HL.out]; omega)
  clear HL
  refine wp_region_tail (S := (fun w' : World => w' = w.drew)) 14 (by kernel_rfl) (by kernel_rfl) ?_ ?_
  · rfl
  intro hSS
  refine wpHd_take (i := 0) (v := ?_) (by kernel_rfl) rfl (by kernel_rfl) (fun _ _ _ h => h) (.inl ⟨by rfl, ?_⟩) hSS ?_
  rotate_left
  · intro w hSw; (try dsimp only at hSw); go_simp; (try with_reducible rfl)
  refine wpHd_take (i := 1) (v := ?_) (by kernel_rfl) rfl (by kernel_rfl) (fun _ _ _ h => h) (.inl ⟨by rfl, ?_⟩) hSS ?_
  rotate_left
  · intro w hSw; (try dsimp only at hSw); go_simp; (try with_reducible rfl)
  refine wpHd_take (i := 2) (v := ?_) (by kernel_rfl) rfl (by kernel_rfl) (fun _ _ _ h => h) (.inl ⟨by rfl, ?_⟩) hSS ?_
  rotate_left
  · intro w hSw; (try dsimp only at hSw); go_simp; (try with_reducible rfl)
  refine wpHd_take (i := 3) (v := ?_) (by kernel_rfl) rfl (by kernel_rfl) (fun _ _ _ h => h) (.inl ⟨by rfl, ?_⟩) hSS ?_
  rotate_left
  · intro w hSw; (try dsimp only at hSw); go_simp; (try with_reducible rfl)
  refine wpHd_take (i := 4) (v := ?_) (by kernel_rfl) rfl (by kernel_rfl) (fun _ _ _ h => h) (.inl ⟨by rfl, ?_⟩) hSS ?_
  rotate_left
  · intro w hSw; (try dsimp only at hSw); go_simp; (try with_reducible rfl)
  try simp only [Act.put, List.getElem_toArray, List.getElem_cons_succ, List.getElem_cons_zero, List.setIfInBounds_toArray, List.set_cons_zero, List.set_cons_succ]
  refine wpHd_take (i := 5) (v := ?_) (by kernel_rfl) rfl (by kernel_rfl) (fun _ _ _ h => h) (.inl ⟨by rfl, ?_⟩) hSS ?_
  rotate_left
  · intro w hSw; (try dsimp only at hSw); go_simp; (try with_reducible rfl)
  refine wpHd_take (i := 6) (v := ?_) (by kernel_rfl) rfl (by kernel_rfl) (fun _ _ _ h => h) (.inl ⟨by rfl, ?_⟩) hSS ?_
  rotate_left
  · intro w hSw; (try dsimp only at hSw); go_simp; (try with_reducible rfl)
  refine wpHd_take (i := 7) (v := ?_) (by kernel_rfl) rfl (by kernel_rfl) (fun _ _ _ h => h) (.inl ⟨by rfl, ?_⟩) hSS ?_
  rotate_left
  · intro w hSw; (try dsimp only at hSw); go_simp; (try with_reducible rfl)
  refine wpHd_take (i := 8) (v := ?_) (by kernel_rfl) rfl (by kernel_rfl) (fun _ _ _ h => h) (.inl ⟨by rfl, ?_⟩) hSS ?_
  rotate_left
  · intro w hSw; (try dsimp only at hSw); go_simp; (try with_reducible rfl)
  refine wpHd_take (i := 9) (v := ?_) (by kernel_rfl) rfl (by kernel_rfl) (fun _ _ _ h => h) (.inl ⟨by rfl, ?_⟩) hSS ?_
  rotate_left
  · intro w hSw; (try dsimp only at hSw); go_simp; (try with_reducible rfl)
  try simp only [Act.put, List.getElem_toArray, List.getElem_cons_succ, List.getElem_cons_zero, List.setIfInBounds_toArray, List.set_cons_zero, List.set_cons_succ]
  refine wpHd_take (i := 10) (v := ?_) (by kernel_rfl) rfl (by kernel_rfl) (fun _ _ _ h => h) (.inl ⟨by rfl, ?_⟩) hSS ?_
  rotate_left
  · intro w hSw; (try dsimp only at hSw); go_simp; (try with_reducible rfl)
  refine wpHd_take (i := 11) (v := ?_) (by kernel_rfl) rfl (by kernel_rfl) (fun _ _ _ h => h) (.inl ⟨by rfl, ?_⟩) hSS ?_
  rotate_left
  · intro w hSw; (try dsimp only at hSw); go_simp; (try with_reducible rfl)
  refine wpHd_take (i := 12) (v := ?_) (by kernel_rfl) rfl (by kernel_rfl) (fun _ _ _ h => h) (.inl ⟨by rfl, ?_⟩) hSS ?_
  rotate_left
  · intro w hSw; (try dsimp only at hSw); go_simp; (try with_reducible rfl)
  refine wpHd_take (i := 13) (v := ?_) (by kernel_rfl) rfl (by kernel_rfl) (fun _ _ _ h => h) (.inl ⟨by rfl, ?_⟩) hSS ?_
  rotate_left
  · intro w hSw; (try dsimp only at hSw); go_simp; (try with_reducible rfl)
  try simp only [Act.put, List.getElem_toArray, List.getElem_cons_succ, List.getElem_cons_zero, List.setIfInBounds_toArray, List.set_cons_zero, List.set_cons_succ]
  refine wpHd_end (by kernel_rfl) ?_
  have HF := front_ok (i := min k Q1) w.drew HH.out.drew.sp (by have := HQ1.out; omega) HN.out
  rw [show ((min k Q1 : Nat) : Int) = min (k : Int) (Q1 : Int) by omega] at HF
  have HFO := Lib.hid HF
  have HE := Lib.hid (show mqPlace P s n = { { s with S := toF s.S (min k Q1) n } with exp := updI s.exp n (s.now + P.life) } by rw [HPL.out, HKQ.out]; rfl)
  clear HF hSS x0 x2 hqw HKQ HPL
  go_wp2_with (first | (go_at_call 226; refine HFO.out.mono ?_; rintro e W2 ⟨rfl, hs2, ho2⟩; have HM2 := Lib.hid (HH.out.drew.step ho2 hs2); have HRN := Lib.hid (mq_renew HN.out HP.out HM2.out HNW.out.1 HNW.out.2); have HO2 := Lib.hid ho2; clear hs2 ho2) | (go_at_call 362; refine HRN.out.mono ?_; rintro e W3 ⟨rfl, hm3, ho3⟩))
  go_end0
  rw [HE.out]
  exact ⟨rfl, hm3, (((Only.refl (Tri p g eb) w).drew).trans' HO2.out fun k hk => .inl hk.tri).trans' ho3 fun k hk => .inl (.inl hk)⟩
end
end Go.Proofs.YtodephhlhdbeoaaGreat
