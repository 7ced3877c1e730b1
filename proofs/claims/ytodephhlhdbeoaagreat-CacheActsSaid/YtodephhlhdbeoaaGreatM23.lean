/- Several texts, one behind the other: MqC MqD MqE. -/
import Derived.Test.YtodephhlhdbeoaaGreatM22
import Derived.BigQuiet
import Derived.Deep.QuietTactic
import Derived.Test.YtodephhlhdbeoaaGreatM1
namespace Go.Proofs.YtodephhlhdbeoaaGreat
open Go.RowKit Go.ChangeShapes Go.WideShapes
set_option linter.unusedVariables false
set_option linter.unusedSimpArgs false
theorem placed_ok {P : MqP} {s : MqS} {b : Int} (hP : P.Ok) (h : MqOk P s) (ho : s.often b + 1 ≤ s.now) (h0 : 0 ≤ b) (h1 : b < 64) : MqOk P (mqPlace P (mqMore s b) b) := by
  have hm : MqOk P (mqMore s b) := ⟨h.dj, h.now, fun y => by
    show 0 ≤ updI s.often b (s.often b + 1) y ∧ updI s.often b (s.often b + 1) y ≤ s.now
    unfold updI
    have h2 := h.often b
    have h3 := h.often y
    split <;> omega⟩
  exact mqFront_ok hm (by have := mqQ_lt hP ((mqMore s b).often b); omega) h0 h1
def AgRel (w : World) (p g eb : Nat) (P : MqP) (s : MqS) (q : Value) (wr : World) : Prop :=
  ∃ j : Nat, j + 1 ≤ P.q ∧ q = .int .i64 ((j : Int) + 1) ∧ MqB wr p g eb P (mqAgeN P s j) ∧ Only (Tri p g eb) w wr
theorem MqB.drewN {w : World} {p g eb : Nat} {P : MqP} {s : MqS} (h : MqB w p g eb P s) (n : Nat) : MqB (w.drewN n) p g eb P s := h.only (F := Non) ((Only.refl Non w).drewN n) id id id
section
set_option maxHeartbeats 4000000
set_option maxRecDepth 100000
variable {w : World} {p g eb : Nat} {P : MqP} {s : MqS}
theorem mq_age (hP : P.Ok) (h : MqB w p g eb P s) (hok : MqOk P s) (h1 : s.now ≤ 2000000000) :
    Calls Tryz.prog 357 #[.pointer (some ⟨p, 0, none⟩)] w fun e w' => e = .returned (.tuple #[]) ∧ MqB w' p g eb P (mqAge P s) ∧ Only (Tri p g eb) w w' := by
  have HH := Lib.hid h
  have HP := Lib.hid hP
  have HK := Lib.hid hok
  have HN := Lib.hid h1
  have HS := Lib.hid (show AgRel w p g eb P s (.int .i64 1) w from ⟨0, by have := hP.q1; omega, rfl, h, Only.refl _ _⟩)
  have hq8 := hP.q8
  clear h hP hok h1
  go_enter Tryz.func357, Tryz.ntmps357
  go_wp2_with fail
  go_loopw [2] (fun q wr => AgRel w p g eb P s q wr) (fun q _ => P.q - (intOf q).toNat)
  case atStart => exact HS.out
  case round =>
    clear HS
    obtain ⟨j, hj, rfl, hm, ho⟩ := hrel
    have x0 := hm.m.ptr
    have x2 := hm.m.q
    by_cases hlt : j + 1 < P.q
    · have hlti : (j : Int) + 1 < P.q := by omega
      have hsm := ageN_same HK.out j (by omega)
      have HT := Lib.hid (show mqAgeN P s (j + 1) = mqAge1 P (mqAgeN P s j) (j + 1) from rfl)
      have HLA := last_any (j + 1) wr hm.sp (by omega)
      rw [show ((j + 1 : Nat) : Int) = (j : Int) + 1 by omega] at HLA
      have HM := Lib.hid hm
      have HSM := Lib.hid hsm
      have HO := Lib.hid ho
      have HLT := Lib.hid hlt
      have hw1 : IntKind.i64.wrap ((j : Int) + 1 + 1) = (j : Int) + 1 + 1 := by rw [IntKind.wrap_i64]; omega
      have hnow : 0 ≤ (mqAgeN P s j).now ∧ (mqAgeN P s j).now ≤ 2000000000 := by have h2 := hsm.now; have h3 := HK.out.now; have h4 := HN.out; omega
      have HNW := Lib.hid hnow
      clear hm hsm ho hnow hj hlt
      by_cases hS : (mqAgeN P s j).S (j + 1) = []
      · rw [if_pos hS] at HLA
        have HLA := Lib.hid HLA
        have HD := Lib.hid (show mqAge1 P (mqAgeN P s j) (j + 1) = mqAgeN P s j by unfold mqAge1 mqDown; rw [if_neg (by simp [hS])])
        clear hS
        go_upto_region 4 with (go_at_call 275; refine HLA.out.mono ?_; rintro e W1 ⟨rfl, rfl⟩)
        go_quiet (fail)
        go_wp2
        go_roundw
        case rel => exact ⟨j + 1, by have := HLT.out; omega, by push_cast; rfl, by rw [HT.out, HD.out]; exact HM.out.drewN _, HO.out.drewN _⟩
        case measure => simp [intOf]; have := HLT.out; omega
      · rw [if_neg hS] at HLA
        have hin := lst_in hS
        have hrg := HSM.out.ok.dj.rng hin
        have HLA := Lib.hid HLA
        have HSN := Lib.hid hS
        have HLS := Lib.hid (show mqDown (mqAgeN P s j) (j + 1) = decide ((mqAgeN P s j).exp (lst ((mqAgeN P s j).S (j + 1))) < (mqAgeN P s j).now) by unfold mqDown; simp [hS])
        have HA1 := Lib.hid (show mqAge1 P (mqAgeN P s j) (j + 1) = if mqDown (mqAgeN P s j) (j + 1) = true then mqFront P (mqAgeN P s j) j (lst ((mqAgeN P s j).S (j + 1))) else mqAgeN P s j from rfl)
        generalize lst ((mqAgeN P s j).S (j + 1)) = b at *
        obtain ⟨n, rfl⟩ := Int.eq_ofNat_of_zero_le hrg.1
        have hn : n < 64 := by omega
        have HNN := Lib.hid hn
        have xe := HM.out.m.exp hn
        have x5 := HM.out.m.now
        have hn1 : (n : Int) < 64 := by omega
        have hn0 : (0 : Int) ≤ n := by omega
        clear hS hin hrg hn
        by_cases hd : (mqAgeN P s j).exp n < (mqAgeN P s j).now
        · have HD := Lib.hid (show mqAge1 P (mqAgeN P s j) (j + 1) = mqFront P (mqAgeN P s j) j n by rw [HA1.out, if_pos (by rw [HLS.out]; exact decide_eq_true hd)])
          have HF := Lib.hid (fun q => front_ok (i := j) (n := n) (wr.drewN q) (HM.out.drewN q).sp (by have := HLT.out; omega) HNN.out)
          generalize hex : (mqAgeN P s j).exp n = ex at *
          generalize hnw : (mqAgeN P s j).now = nw at *
          have HNX := Lib.hid hnw
          clear hex hnw HA1 HLS
          go_upto_region 4 with (go_at_call 275; refine HLA.out.mono ?_; rintro e W1 ⟨rfl, rfl⟩)
          go_quiet (fail)
          have x0q : (wr.drewN nq).cell? ⟨p, 0, none⟩ = some (.pointer (some ⟨g, 0, none⟩)) := x0
          have x2q : (wr.drewN nq).cell? ⟨p, 2, none⟩ = some (.int .i64 P.q) := x2
          have HFQ := Lib.hid (HF.out nq)
          have HMQ := Lib.hid (HM.out.drewN nq)
          have HOQ := Lib.hid (HO.out.drewN nq)
          clear x0 x2 xe x5 HF HLA
          generalize wr.drewN nq = W1 at *
          go_wp2_with (first | (go_at_call 226; refine HFQ.out.mono ?_; rintro e W2 ⟨rfl, hs2, ho2⟩; have HM2 := Lib.hid (HMQ.out.step ho2 hs2); have HRN := Lib.hid (mq_renew HNN.out HP.out HM2.out (by rw [HNX.out]; exact HNW.out.1) (by rw [HNX.out]; exact HNW.out.2)); have HO2 := Lib.hid ho2; clear hs2 ho2) | (go_at_call 362; refine HRN.out.mono ?_; rintro e W3 ⟨rfl, hm3, ho3⟩; have HM3 := Lib.hid hm3; have HO3 := Lib.hid ho3; clear hm3 ho3))
          go_roundw
          case rel => exact ⟨j + 1, by have := HLT.out; omega, by push_cast; rfl, by rw [HT.out, HD.out]; exact HM3.out, (HOQ.out.trans' HO2.out fun k hk => .inl hk.tri).trans' HO3.out fun k hk => .inl (.inl hk)⟩
          case measure => simp [intOf]; have := HLT.out; omega
        · have HD := Lib.hid (show mqAge1 P (mqAgeN P s j) (j + 1) = mqAgeN P s j by rw [HA1.out, if_neg (by rw [HLS.out]; simpa using hd)])
          generalize hex : (mqAgeN P s j).exp n = ex at *
          generalize hnw : (mqAgeN P s j).now = nw at *
          clear hex hnw HA1 HLS
          have hdn : nw ≤ ex := by omega
          go_upto_region 4 with (go_at_call 275; refine HLA.out.mono ?_; rintro e W1 ⟨rfl, rfl⟩)
          go_quiet (fail)
          go_wp2
          go_roundw
          case rel => exact ⟨j + 1, by have := HLT.out; omega, by push_cast; rfl, by rw [HT.out, HD.out]; exact HM.out.drewN _, HO.out.drewN _⟩
          case measure => simp [intOf]; have := HLT.out; omega
    · have he : j + 1 = P.q := by omega
      have hqi : ¬ ((j : Int) + 1 < P.q) := by omega
      have HE := Lib.hid (show mqAge P s = mqAgeN P s j by unfold mqAge; rw [show P.q - 1 = j by omega])
      have HM := Lib.hid hm
      have HO := Lib.hid ho
      have hqd : decide ((j : Int) + 1 < P.q) = false := by simpa using hqi
      clear hm ho he hj hlt
      go_wp2_with fail
      go_end0
      rw [HE.out]
      exact ⟨rfl, HM.out, HO.out⟩
theorem mq_use {n : Nat} (hP : P.Ok) (h : MqB w p g eb P s) (hok : MqOk P s) (h1 : s.now ≤ 1000000000) (hb : (n : Int) ∈ mqAll P s) :
    Calls Tryz.prog 356 #[.pointer (some ⟨p, 0, none⟩), .int .i64 n] w fun e w' => e = .returned (.bool true) ∧ MqB w' p g eb P (mqUse P s n) ∧ Only (Tri p g eb) w w' := by
  have hn : n < 64 := by have := (all_rng hok hb).2; omega
  have HC := mq_has (n : Int) h hok.dj
  rw [decide_eq_true hb] at HC
  have HC := Lib.hid HC
  have x5 := h.m.now
  have f5 : w.frozen? ⟨p, 5, none⟩ = false := Box.free h.m _
  have h0 := hok.now
  have hwn : IntKind.i64.wrap (s.now + 1) = s.now + 1 := by rw [IntKind.wrap_i64]; omega
  have HM1 := Lib.hid (show MqB (w.setCell ⟨p, 5, none⟩ (.int .i64 (s.now + 1))) p g eb P (mqTick s) from h.setNow _)
  have HO1 := Lib.hid (show Only (Tri p g eb) w (w.setCell ⟨p, 5, none⟩ (.int .i64 (s.now + 1))) from (Only.refl _ w).setCell (p := ⟨p, 5, none⟩) (.inl (.inl rfl)) _)
  have HOK := Lib.hid hok
  have HP := Lib.hid hP
  have HN := Lib.hid hn
  have HNW := Lib.hid (show 0 ≤ s.now ∧ s.now ≤ 1000000000 from ⟨h0, h1⟩)
  have HB := Lib.hid hb
  have hn1 : (n : Int) < 64 := by omega
  have hn0 : (0 : Int) ≤ n := by omega
  clear h hok hP hb h1 hn
  go_enter Tryz.func356, Tryz.ntmps356
  go_upto_region 4 with (go_at_call 353; refine HC.out.mono ?_; rintro e W1 ⟨rfl, rfl⟩)
  change Code.wp _ _ _ _ (w.setCell ⟨p, 5, none⟩ (.int .i64 (s.now + 1)))
  clear x5 f5 HC
  generalize w.setCell ⟨p, 5, none⟩ (.int .i64 (s.now + 1)) = W2 at *
  have hom := HOK.out.often n
  have xo : W2.drew.cell? ⟨p, 6 + n, none⟩ = some (.int .i64 (s.often n)) := HM1.out.m.often HN.out
  have fo : W2.drew.frozen? ⟨p, 6 + n, none⟩ = false := Box.free HM1.out.m _
  have hwo : IntKind.i64.wrap (s.often n + 1) = s.often n + 1 := by have := HNW.out; rw [IntKind.wrap_i64]; omega
  have HM3 := Lib.hid (show MqB (W2.setCell ⟨p, 6 + n, none⟩ (.int .i64 (s.often n + 1))).drew p g eb P (mqMore (mqTick s) n) from (HM1.out.setOften HN.out _).drew)
  have HO3 := Lib.hid (show Only (Tri p g eb) w (W2.setCell ⟨p, 6 + n, none⟩ (.int .i64 (s.often n + 1))).drew from (HO1.out.setCell (p := ⟨p, 6 + n, none⟩) (.inl (.inl rfl)) _).drew)
  have HOM := Lib.hid hom
  clear hom
  refine wp_region_tail (S := (fun w' : World => w' = W2.drew)) 10 (by kernel_rfl) (by kernel_rfl) ?_ ?_
  · rfl
  intro hSS
  refine wpHd_take (i := 0) (v := ?_) (by kernel_rfl) rfl (by kernel_rfl) (fun _ _ _ h => h) (.inl ⟨by rfl, ?_⟩) hSS ?_
  rotate_left
  · intro w hSw; (try dsimp only at hSw); go_simp; (try with_reducible rfl)
  refine wpHd_take (i := 1) (v := ?_) (by kernel_rfl) rfl (by kernel_rfl) (fun _ _ _ h => h) (.inl ⟨by rfl, ?_⟩) hSS ?_
  rotate_left
  · intro w hSw; (try dsimp only at hSw); go_simp; (try with_reducible rfl)
  refine wpHd_take (i := 2) (v := ?_) (by kernel_rfl) rfl (by kernel_rfl) (fun _ _ _ h => h) (.inl ⟨by rfl, ?_⟩) hSS ?_
  rotate_left
  · intro w hSw; (try dsimp only at hSw); go_simp; (try with_reducible rfl)
  refine wpHd_take (i := 3) (v := ?_) (by kernel_rfl) rfl (by kernel_rfl) (fun _ _ _ h => h) (.inl ⟨by rfl, ?_⟩) hSS ?_
  rotate_left
  · intro w hSw; (try dsimp only at hSw); go_simp; (try with_reducible rfl)
  refine wpHd_take (i := 4) (v := ?_) (by kernel_rfl) rfl (by kernel_rfl) (fun _ _ _ h => h) (.inl ⟨by rfl, ?_⟩) hSS ?_
  rotate_left
  · intro w hSw; (try dsimp only at hSw); go_simp; (try with_reducible rfl)
  try simp only [Act.put, List.getElem_toArray, List.getElem_cons_succ, List.getElem_cons_zero, List.setIfInBounds_toArray, List.set_cons_zero, List.set_cons_succ]
  refine wpHd_take (i := 5) (v := ?_) (by kernel_rfl) rfl (by kernel_rfl) (fun _ _ _ h => h) (.inl ⟨by rfl, ?_⟩) hSS ?_
  rotate_left
  · intro w hSw; (try dsimp only at hSw); go_simp; (try with_reducible rfl)
  refine wpHd_take (i := 6) (v := ?_) (by kernel_rfl) rfl (by kernel_rfl) (fun _ _ _ h => h) (.inl ⟨by rfl, ?_⟩) hSS ?_
  rotate_left
  · intro w hSw; (try dsimp only at hSw); go_simp; (try with_reducible rfl)
  refine wpHd_take (i := 7) (v := ?_) (by kernel_rfl) rfl (by kernel_rfl) (fun _ _ _ h => h) (.inl ⟨by rfl, ?_⟩) hSS ?_
  rotate_left
  · intro w hSw; (try dsimp only at hSw); go_simp; (try with_reducible rfl)
  refine wpHd_take (i := 8) (v := ?_) (by kernel_rfl) rfl (by kernel_rfl) (fun _ _ _ h => h) (.inl ⟨by rfl, ?_⟩) hSS ?_
  rotate_left
  · intro w hSw; (try dsimp only at hSw); go_simp; (try with_reducible rfl)
  refine wpHd_take (i := 9) (v := ?_) (by kernel_rfl) rfl (by kernel_rfl) (fun _ _ _ h => h) (.inl ⟨by rfl, ?_⟩) hSS ?_
  rotate_left
  · intro w hSw; (try dsimp only at hSw); go_simp; (try with_reducible rfl)
  try simp only [Act.put, List.getElem_toArray, List.getElem_cons_succ, List.getElem_cons_zero, List.setIfInBounds_toArray, List.set_cons_zero, List.set_cons_succ]
  refine wpHd_end (by kernel_rfl) ?_
  clear hSS
  go_upto_region 5 with fail
  change Code.wp _ _ _ _ (W2.setCell ⟨p, 6 + n, none⟩ (.int .i64 (s.often n + 1))).drew
  clear xo fo hwo hwn HC
  generalize (W2.setCell ⟨p, 6 + n, none⟩ (.int .i64 (s.often n + 1))).drew = W3 at *
  have HPO := Lib.hid (placed_ok (b := (n : Int)) HP.out (tick_ok HOK.out) (by have := HOM.out; show s.often n + 1 ≤ s.now + 1; omega) hn0 hn1)
  have hoo : (mqMore (mqTick s) n).often n = s.often n + 1 := by show updI s.often n (s.often n + 1) n = _; unfold updI; rw [if_pos rfl]
  have HPL := Lib.hid (mq_place HN.out HP.out HM3.out (by have := HNW.out; show 0 ≤ s.now + 1; omega) (by have := HNW.out; show s.now + 1 ≤ 2000000000; omega) (by rw [hoo]; have := HOM.out; omega) (by rw [hoo]; have := HOM.out; have := HNW.out; omega))
  have HNX := Lib.hid (show (mqPlace P (mqMore (mqTick s) n) n).now ≤ 2000000000 by have := HNW.out; show s.now + 1 ≤ 2000000000; omega)
  clear hoo
  go_wp2_with (first | (go_at_call 359; refine HPL.out.mono ?_; rintro e W4 ⟨rfl, hm4, ho4⟩; have HM4 := Lib.hid hm4; have HO4 := Lib.hid (HO3.out.trans ho4); have HAG := Lib.hid (mq_age HP.out hm4 HPO.out HNX.out); clear hm4 ho4) | (go_at_call 357; refine HAG.out.mono ?_; rintro e W5 ⟨rfl, hm5, ho5⟩))
  go_ret
  exact ⟨rfl, hm5, HO4.out.trans ho5⟩
theorem mq_use_no {b : Int} (h : MqB w p g eb P s) (hok : MqOk P s) (hb : b ∉ mqAll P s) :
    Calls Tryz.prog 356 #[.pointer (some ⟨p, 0, none⟩), .int .i64 b] w fun e w' => e = .returned (.bool false) ∧ w = w' := by
  have HC := mq_has b h hok.dj
  rw [decide_eq_false hb] at HC
  have HC := Lib.hid HC
  clear h hok hb
  go_enter Tryz.func356, Tryz.ntmps356
  go_wp2_with (go_at_call 353; refine HC.out.mono ?_; rintro e W1 ⟨rfl, rfl⟩)
  go_ret
  exact ⟨rfl, rfl⟩
end
theorem from_len {m : Nat} {S : Nat → List Int} (h : Djl m S) (k : Nat) : (mqFrom S k).length ≤ 64 :=
  nodup_len 64 _ (from_nodup h k) fun x hx => by obtain ⟨i, _, h2⟩ := (mem_from S x k).1 hx; exact h.rng h2
def LnRel (w : World) (P : MqP) (s : MqS) (n i : Value) (wr : World) : Prop := ∃ k : Nat, k ≤ P.q ∧ i = .int .i64 k ∧ n = .int .i64 ((mqFrom s.S k).length : Nat) ∧ wr = w
def AlRel' (w : World) (P : MqP) (s : MqS) (v i : Value) (wr : World) : Prop := ∃ (k : Nat) (l : List Int), k ≤ P.q ∧ i = .int .i64 ((k : Int) - 1) ∧ OwnInts 3 wr w.heap.size v l ∧ mqFrom s.S P.q = l ++ mqFrom s.S k ∧ Only Non w wr
def EvRel (w : World) (P : MqP) (s : MqS) (q : Value) (wr : World) : Prop := ∃ k : Nat, k ≤ mqQ0 P s ∧ q = .int .i64 k ∧ wr = w
section
set_option maxHeartbeats 4000000
set_option maxRecDepth 100000
variable {w : World} {p g eb : Nat} {P : MqP} {s : MqS}
theorem mq_len (hP : P.Ok) (h : MqB w p g eb P s) (hd : Djl (P.q + 1) s.S) :
    Calls Tryz.prog 354 #[.pointer (some ⟨p, 0, none⟩)] w fun e w' => e = .returned (.int .i64 (mqAll P s).length) ∧ w = w' := by
  have x0 := h.m.ptr
  have x2 := h.m.q
  have HH := Lib.hid h
  have HD := Lib.hid hd
  have hq8 := hP.q8
  have HS := Lib.hid (show LnRel w P s (.int .i64 0) (.int .i64 0) w from ⟨0, Nat.zero_le _, rfl, rfl, rfl⟩)
  clear h hd hP
  go_enter Tryz.func354, Tryz.ntmps354
  go_wp2_with fail
  go_loopw [3, 12] (fun n i wr => LnRel w P s n i wr) (fun _ i _ => P.q - (intOf i).toNat)
  case atStart => exact HS.out
  case round =>
    clear HS
    obtain ⟨k, hk, rfl, rfl, rfl⟩ := hrel
    by_cases hlt : k < P.q
    · have hlti : (k : Int) < P.q := by omega
      have HL := Lib.hid (len_any k wr HH.out.sp (by omega))
      have hn1 := from_len HD.out (k + 1)
      have HF := Lib.hid (show (mqFrom s.S (k + 1)).length = (mqFrom s.S k).length + (s.S k).length by rw [mqFrom, List.length_append]; omega)
      rw [HF.out] at hn1
      generalize (mqFrom s.S k).length = a at *
      generalize (s.S k).length = b at *
      have hw : IntKind.i64.wrap ((a : Int) + b) = (a : Int) + b := by rw [IntKind.wrap_i64]; omega
      have HLT := Lib.hid hlt
      clear hlt hk
      go_wp2_with (go_at_call 343; refine HL.out.mono ?_; rintro e W1 ⟨rfl, rfl⟩)
      go_roundw
      case rel => exact ⟨k + 1, HLT.out, by go_num, by rw [HF.out]; go_num, rfl⟩
      case measure => simp [intOf]; have := HLT.out; omega
    · obtain rfl : k = P.q := by omega
      have HE := Lib.hid (show (mqAll P s).length = (mqFrom s.S P.q).length from rfl)
      generalize (mqFrom s.S P.q).length = a at *
      clear hlt hk
      go_wp2_with fail
      go_ret
      rw [HE.out]
      exact ⟨rfl, rfl⟩
theorem mq_rem {n : Nat} (h : MqB w p g eb P s) (hok : MqOk P s) (hb : (n : Int) ∈ mqAll P s) :
    Calls Tryz.prog 355 #[.pointer (some ⟨p, 0, none⟩), .int .i64 n] w fun e w' => e = .returned (.bool true) ∧ MqB w' p g eb P (mqRem s n) ∧ Only (Tri p g eb) w w' := by
  have HC := mq_has (n : Int) h hok.dj
  rw [decide_eq_true hb] at HC
  have HC := Lib.hid HC
  have x0 := h.m.ptr
  obtain ⟨i, _, hi⟩ := mem_all.1 hb
  have HR := Lib.hid (remove_in (i := i) w h.sp hi)
  have HH := Lib.hid h
  clear h hok hb hi
  go_enter Tryz.func355, Tryz.ntmps355
  go_wp2_with (first | (go_at_call 353; refine HC.out.mono ?_; rintro e W1 ⟨rfl, rfl⟩) | (go_at_call 276; refine HR.out.mono ?_; rintro e W2 ⟨rfl, hs2, ho2⟩))
  go_ret
  exact ⟨rfl, HH.out.step ho2 hs2, ho2.mono fun k hk => .inl hk.tri⟩
theorem mq_queue {i : Nat} (h : MqB w p g eb P s) (hi : i < P.q) :
    Calls Tryz.prog 360 #[.pointer (some ⟨p, 0, none⟩), .int .i64 i] w fun e w' => ∃ v, e = .returned v ∧ OwnInts 3 w' w.heap.size v (s.S i) ∧ Only Non w w' := by
  have x0 := h.m.ptr
  have x2 := h.m.q
  have HA := Lib.hid (all_any (i := i) w h.sp (by omega))
  have hi1 : (i : Int) < P.q := by omega
  have hi2 : ¬ (P.q : Int) ≤ i := by omega
  have hi3 : ¬ P.q ≤ i := by omega
  have hi0 : (0 : Int) ≤ i := by omega
  clear h
  go_enter Tryz.func360, Tryz.ntmps360
  go_wp2_with (go_at_call 274; refine HA.out.mono ?_; rintro e W1 ⟨v, rfl, h1, h2⟩)
  go_ret
  exact ⟨v, rfl, h1, h2⟩
theorem mq_all (hP : P.Ok) (h : MqB w p g eb P s) (hd : Djl (P.q + 1) s.S) :
    Calls Tryz.prog 352 #[.pointer (some ⟨p, 0, none⟩)] w fun e w' => ∃ v, e = .returned v ∧ OwnInts 3 w' w.heap.size v (mqAll P s) ∧ Only Non w w' := by
  have x2 := h.m.q
  have HH := Lib.hid h
  have HD := Lib.hid hd
  have hq8 := hP.q8
  have hq1 := hP.q1
  have hwq : IntKind.i64.wrap ((P.q : Int) - 1) = (P.q : Int) - 1 := by rw [IntKind.wrap_i64]; omega
  have HS := Lib.hid (show AlRel' w P s (.slice none 0 0) (.int .i64 ((P.q : Int) - 1)) w from ⟨P.q, [], Nat.le_refl _, rfl, OwnInts.nil _ _ _, rfl, Only.refl _ _⟩)
  clear h hd hP
  go_enter Tryz.func352, Tryz.ntmps352
  go_wp2_with fail
  go_loopw [3, 4] (fun v i wr => AlRel' w P s v i wr) (fun _ i _ => (intOf i + 1).toNat)
  case atStart => exact HS.out
  case round =>
    clear HS hwq
    obtain ⟨k, l, hk, rfl, hl, he, ho⟩ := hrel
    cases k with
    | succ k =>
      rw [show ((k + 1 : Nat) : Int) - 1 = (k : Int) by omega]
      have hk0 : (0 : Int) ≤ k := by omega
      have hk8 : (k : Int) ≤ 8 := by omega
      have HQ := Lib.hid (mq_queue (i := k) (HH.out.only (F := Non) ho id id id) (by omega))
      have HL := Lib.hid hl
      have HO := Lib.hid ho
      have HK := Lib.hid hk
      have hlen : l.length + (s.S k).length ≤ 1000000 := by
        have h1 := from_len HD.out P.q
        rw [he, mqFrom, List.length_append, List.length_append] at h1
        omega
      have HLN := Lib.hid hlen
      have HE := Lib.hid (show mqFrom s.S P.q = (l ++ s.S k) ++ mqFrom s.S k by rw [he, mqFrom, List.append_assoc])
      clear hl ho he hk hlen
      go_wp2_with (first | (go_at_call 360; refine HQ.out.mono ?_; rintro e W1 ⟨u, rfl, h1, h2⟩; have HU := Lib.hid h1; have HO1 := Lib.hid (HO.out.trans h2); have HL1 := Lib.hid (HL.out.only h2 fun _ _ => id); have HZ1 := Lib.hid (show w.heap.size ≤ W1.heap.size from HO1.out.size); clear h1 h2) | (at_builtin; refine wpList_ownapp _ rfl (.tmp 17) (.tmp 20) 43 3 rfl intInfo Tryz.underlying43 w.heap.size _ l rfl HL1.out _ _ (s.S k) rfl HU.out HLN.out HZ1.out ?_; intro v2 W2 h3 h4; have HV2 := Lib.hid h3; have HO2 := Lib.hid (HO1.out.trans' h4 fun q hq => .inr (HL1.out.lt q hq).1); clear h3 h4))
      go_roundw
      case rel => exact ⟨k, l ++ s.S k, by have := HK.out; omega, rfl, HV2.out, HE.out, HO2.out⟩
      case measure => simp [intOf]
    | zero =>
      have HL := Lib.hid hl
      have HO := Lib.hid ho
      have HE := Lib.hid (show mqAll P s = l by rw [show mqAll P s = mqFrom s.S P.q from rfl, he, mqFrom, List.append_nil])
      clear hl ho he hk
      rw [show ((0 : Nat) : Int) - 1 = -1 by decide]
      go_wp2_with fail
      go_ret
      rw [HE.out]
      exact ⟨_, rfl, HL.out, HO.out⟩
theorem mq_evict (hP : P.Ok) (h : MqB w p g eb P s) (hok : MqOk P s) (hne : mqAll P s ≠ []) :
    Calls Tryz.prog 358 #[.pointer (some ⟨p, 0, none⟩)] w fun e w' => e = .returned (.int .i64 (mqVict P s)) ∧ MqB w' p g eb P (mqEvict P s) ∧ Only (Tri p g eb) w w' := by
  have HM := Lib.hid h
  have HP := Lib.hid hP
  obtain ⟨hq0, hqs, hql⟩ := q0_spec hne
  have hvr := all_rng hok (vict_all hne)
  have HQ0 := Lib.hid hq0
  have HQL := Lib.hid hql
  have HV := Lib.hid (show mqVict P s = lst (s.S (mqQ0 P s)) from rfl)
  have HQS := Lib.hid hqs
  have HS := Lib.hid (show EvRel w P s (.int .i64 0) w from ⟨0, Nat.zero_le _, rfl, rfl⟩)
  have hq8 := hP.q8
  have HVR := Lib.hid hvr
  have x0 := h.m.ptr
  clear h hP hok hne hq0 hqs hql hvr
  go_enter Tryz.func358, Tryz.ntmps358
  go_wp2_with fail
  go_loopw [3] (fun q wr => EvRel w P s q wr) (fun q _ => P.q - (intOf q).toNat)
  case atStart => exact HS.out
  case round =>
    clear HS
    obtain ⟨k, hk, rfl, rfl⟩ := hrel
    by_cases hlt : k < mqQ0 P s
    · have HL := len_any k wr HM.out.sp (by have := HQ0.out; omega)
      rw [HQL.out k hlt] at HL
      have HL := Lib.hid HL
      have HLT := Lib.hid (show k < mqQ0 P s ∧ mqQ0 P s < P.q from ⟨hlt, HQ0.out⟩)
      have hk8 : (k : Int) ≤ 8 := by have := HQ0.out; omega
      clear hk hlt
      go_wp2_with (go_at_call 343; refine HL.out.mono ?_; rintro e W1 ⟨rfl, rfl⟩)
      go_roundw
      case rel => exact ⟨k + 1, by have := HLT.out; omega, by go_num, rfl⟩
      case measure => simp [intOf]; have := HLT.out; omega
    · obtain rfl : k = mqQ0 P s := by omega
      have HL := Lib.hid (len_any (mqQ0 P s) wr HM.out.sp (by have := HQ0.out; omega))
      have HLA := last_any (mqQ0 P s) wr HM.out.sp (by have := HQ0.out; omega)
      rw [if_neg HQS.out, ← HV.out] at HLA
      have HLA := Lib.hid HLA
      have hpos : 0 < (s.S (mqQ0 P s)).length := List.length_pos_iff.2 HQS.out
      generalize (s.S (mqQ0 P s)).length = len at *
      have hlb : ((len : Int) == 0) = false := by simp; omega
      have hlb2 : ¬ (len : Int) = 0 := by omega
      have hlb3 : ¬ len = 0 := by omega
      generalize mqQ0 P s = q0 at *
      clear hk hlt
      go_upto_region 5 with (first | (go_at_call 343; refine HL.out.mono ?_; rintro e W1 ⟨rfl, rfl⟩) | (go_at_call 275; refine HLA.out.mono ?_; rintro e W1 ⟨rfl, rfl⟩))
      have HEV := Lib.hid (show mqEvict P s = if P.ghost < ((mqGhosted P s).S P.q).length then { mqGhosted P s with S := eraS (mqGhosted P s).S (lst ((mqGhosted P s).S P.q)) } else mqGhosted P s from rfl)
      have HGH := Lib.hid (show mqGhosted P s = { s with S := toF s.S P.q (mqVict P s) } from rfl)
      generalize hvv : mqVict P s = v at *
      obtain ⟨n, rfl⟩ := Int.eq_ofNat_of_zero_le HVR.out.1
      have HVV := Lib.hid hvv
      clear hvv
      have hn : n < 64 := by have := HVR.out.2; omega
      have HFR := Lib.hid (front_ok (i := P.q) (n := n) wr.drew HM.out.drew.sp (by omega) hn)
      clear hn hlb hlb2 hlb3 hpos HL HLA HV
      refine wp_region_tail (S := (fun w' : World => w' = wr.drew)) 8 (by kernel_rfl) (by kernel_rfl) ?_ ?_
      · rfl
      intro hSS
      refine wpHd_take (i := 0) (v := ?_) (by kernel_rfl) rfl (by kernel_rfl) (fun _ _ _ h => h) (.inl ⟨by rfl, ?_⟩) hSS ?_
      rotate_left
      · intro w hSw; (try dsimp only at hSw); go_simp; (try with_reducible rfl)
      refine wpHd_take (i := 1) (v := ?_) (by kernel_rfl) rfl (by kernel_rfl) (fun _ _ _ h => h) (.inl ⟨by rfl, ?_⟩) hSS ?_
      rotate_left
      · intro w hSw; (try dsimp only at hSw); go_simp; (try with_reducible rfl)
      refine wpHd_take (i := 2) (v := ?_) (by kernel_rfl) rfl (by kernel_rfl) (fun _ _ _ h => h) (.inl ⟨by rfl, ?_⟩) hSS ?_
      rotate_left
      · intro w hSw; (try dsimp only at hSw); go_simp; (try with_reducible rfl)
      refine wpHd_take (i := 3) (v := ?_) (by kernel_rfl) rfl (by kernel_rfl) (fun _ _ _ h => h) (.inl ⟨by rfl, ?_⟩) hSS ?_
      rotate_left
      · intro w hSw; (try dsimp only at hSw); go_simp; (try with_reducible rfl)
      refine wpHd_take (i := 4) (v := ?_) (by kernel_rfl) rfl (by kernel_rfl) (fun _ _ _ h => h) (.inl ⟨by rfl, ?_⟩) hSS ?_
      rotate_left
      · intro w hSw; (try dsimp only at hSw); go_simp; (try with_reducible rfl)
      try simp only [Act.put, List.getElem_toArray, List.getElem_cons_succ, List.getElem_cons_zero, List.setIfInBounds_toArray, List.set_cons_zero, List.set_cons_succ]
      refine wpHd_take (i := 5) (v := ?_) (by kernel_rfl) rfl (by kernel_rfl) (fun _ _ _ h => h) (.inl ⟨by rfl, ?_⟩) hSS ?_
      rotate_left
      · intro w hSw; (try dsimp only at hSw); go_simp; (try with_reducible rfl)
      refine wpHd_take (i := 7) (v := ?_) (by kernel_rfl) rfl (by kernel_rfl) (fun _ _ _ h => h) (.inl ⟨by rfl, ?_⟩) hSS ?_
      rotate_left
      · intro w hSw; (try dsimp only at hSw); go_simp; (try with_reducible rfl)
      try simp only [Act.put, List.getElem_toArray, List.getElem_cons_succ, List.getElem_cons_zero, List.setIfInBounds_toArray, List.set_cons_zero, List.set_cons_succ]
      refine wpHd_one (i := 6) rfl (by kernel_rfl) (fun K hK => ?_)
      go_simp
      refine (mq_ghost HM.out.drew).mono ?_
      rintro e W2 ⟨rfl, rfl⟩
      refine hK.out _ _ ?_ (fun hSS => ?_)
      · rfl
      clear hK
      try simp only [Act.put, List.getElem_toArray, List.getElem_cons_succ, List.getElem_cons_zero, List.setIfInBounds_toArray, List.set_cons_zero, List.set_cons_succ]
      refine wpHd_end (by kernel_rfl) ?_
      clear hSS
      go_upto_region 6 with (go_at_call 226; refine HFR.out.mono ?_; rintro e W2 ⟨rfl, hs2, ho2⟩)
      have hm2 : MqB W2 p g eb P (mqGhosted P s) := by rw [HGH.out]; exact HM.out.drew.step ho2 hs2
      have HM2 := Lib.hid hm2
      have HO2 := Lib.hid (((Only.refl (Tri p g eb) wr).drew).trans' ho2 fun k hk => .inl hk.tri)
      have HLN := Lib.hid (fun q => len_any P.q (W2.drewN q) (hm2.drewN q).sp (by omega))
      have x0b := hm2.m.ptr
      have x4 := hm2.m.ghost
      have HLX := Lib.hid (fun W (hm : MqB W p g eb P (mqGhosted P s)) => last_any P.q W hm.sp (by omega))
      have HSP := Lib.hid hm2.sp
      clear hm2 hs2 ho2 HFR HM HGH x0
      generalize mqGhosted P s = t at *
      by_cases hg : P.ghost < (t.S P.q).length
      · have HE := Lib.hid (HEV.out.trans (if_pos hg))
        have hgi : (P.ghost : Int) < (t.S P.q).length := by omega
        have hne : t.S P.q ≠ [] := fun e => by rw [e] at hg; simp at hg
        have HLX2 := Lib.hid (fun W hm => by have := HLX.out W hm; rw [if_neg hne] at this; exact this)
        have hin := lst_in hne
        generalize lst (t.S P.q) = old at *
        have hold := HSP.out.rng hin
        obtain ⟨m, rfl⟩ := Int.eq_ofNat_of_zero_le hold.1
        have HRM := Lib.hid (fun W (hm : MqB W p g eb P t) => remove_in (i := P.q) (n := m) W hm.sp hin)
        generalize (t.S P.q).length = tl at *
        clear hne hin hold HLX hg
        go_quiet ((first | (go_at_call 361; exact quiet_l (mq_ghost (HM2.out.drewN _))) | (go_at_call 343; exact quiet_l (HLN.out _))))
        go_wp2_with fail
        have x0c : (W2.drewN nq).cell? ⟨p, 0, none⟩ = some (.pointer (some ⟨g, 0, none⟩)) := x0b
        have HM3 := Lib.hid (HM2.out.drewN nq)
        have HO3 := Lib.hid (HO2.out.drewN nq)
        clear x0b x4 HM2 HO2 HLN HSP
        generalize W2.drewN nq = W3 at *
        go_quiet ((first | (go_at_call 361; exact quiet_l (mq_ghost (HM3.out.drewN _))) | (go_at_call 275; exact quiet_l (HLX2.out _ (HM3.out.drewN _)))))
        go_wp2_with fail
        refine (HRM.out _ (HM3.out.drewN _)).mono ?_
        rintro e W4 ⟨rfl, hs4, ho4⟩
        go_wp2_with fail
        go_ret
        rw [HE.out, HVV.out]
        exact ⟨rfl, (HM3.out.drewN _).step ho4 hs4, (HO3.out.drewN _).trans' ho4 fun k hk => .inl hk.tri⟩
      · have HE := Lib.hid (HEV.out.trans (if_neg hg))
        have hgi : ¬ (P.ghost : Int) < (t.S P.q).length := by omega
        generalize (t.S P.q).length = tl at *
        have hgn : tl ≤ P.ghost := by omega
        clear hg HLX HSP
        go_quiet ((first | (go_at_call 361; exact quiet_l (mq_ghost (HM2.out.drewN _))) | (go_at_call 343; exact quiet_l (HLN.out _))))
        go_wp2_with fail
        go_ret
        rw [HE.out, HVV.out]
        exact ⟨rfl, HM2.out.drewN _, HO2.out.drewN _⟩
end
theorem mqIn_iff {P : MqP} {s : MqS} {b : Int} (h : Djl (P.q + 1) s.S) : mqIn P s b = true ↔ ∃ i, b ∈ s.S i := by
  unfold mqIn
  rw [List.any_eq_true]
  constructor
  · rintro ⟨i, _, hi⟩; exact ⟨i, by simpa using hi⟩
  · rintro ⟨i, hi⟩
    have him : i < P.q + 1 := by
      rcases Nat.lt_or_ge i (P.q + 1) with h2 | h2
      · exact h2
      · rw [h.out i h2] at hi; cases hi
    exact ⟨i, List.mem_range.2 him, by simpa using hi⟩
section
set_option maxHeartbeats 4000000
set_option maxRecDepth 100000
variable {w : World} {p g eb : Nat} {P : MqP} {s : MqS}
def MqAddPost (p g eb : Nat) (P : MqP) (s : MqS) (b : Int) (w : World) (e : Ending) (w' : World) : Prop :=
  e = .returned (.tuple #[.int .i64 (mqAdd P s b).2.1, .bool (mqAdd P s b).2.2, .int .i64 0]) ∧ MqB w' p g eb P (mqAdd P s b).1 ∧ Only (Tri p g eb) w w'
theorem mq_add_in {n : Nat} (hP : P.Ok) (h : MqB w p g eb P s) (hok : MqOk P s) (h1 : s.now ≤ 1000000000) (hb : (n : Int) ∈ mqAll P s) :
    Calls Tryz.prog 351 #[.pointer (some ⟨p, 0, none⟩), .int .i64 n] w (MqAddPost p g eb P s n w) := by
  have HEQ := Lib.hid (show mqAdd P s n = (mqUse P s n, 0, false) by unfold mqAdd; rw [if_pos hb])
  have HU := Lib.hid (mq_use hP h hok h1 hb)
  have hn1 : (n : Int) < 64 := (all_rng hok hb).2
  have hn0 : (0 : Int) ≤ n := by omega
  clear hP h hok h1 hb
  go_enter Tryz.func351, Tryz.ntmps351
  go_wp2_with (go_at_call 356; refine HU.out.mono ?_; rintro e W1 ⟨rfl, hm1, ho1⟩)
  go_ret3
  exact ⟨by rw [HEQ.out]; rfl, by rw [HEQ.out]; exact hm1, ho1⟩
theorem mq_add_new {n : Nat} (hP : P.Ok) (h : MqB w p g eb P s) (hI : MqI P s) (h1 : s.now ≤ 1000000000) (hn : n < 64) (hb : (n : Int) ∉ mqAll P s) :
    Calls Tryz.prog 351 #[.pointer (some ⟨p, 0, none⟩), .int .i64 n] w (MqAddPost p g eb P s n w) := by
  have HU := Lib.hid (mq_use_no h hI.ok hb)
  have hn1 : (n : Int) < 64 := by omega
  have hn0 : (0 : Int) ≤ n := by omega
  have x5 := h.m.now
  have f5 : w.frozen? ⟨p, 5, none⟩ = false := Box.free h.m _
  have h0 := hI.ok.now
  have hwn : IntKind.i64.wrap (s.now + 1) = s.now + 1 := by rw [IntKind.wrap_i64]; omega
  have HM1 := Lib.hid (show MqB (w.setCell ⟨p, 5, none⟩ (.int .i64 (s.now + 1))) p g eb P (mqTick s) from h.setNow _)
  have HO1 := Lib.hid (show Only (Tri p g eb) w (w.setCell ⟨p, 5, none⟩ (.int .i64 (s.now + 1))) from (Only.refl _ w).setCell (p := ⟨p, 5, none⟩) (.inl (.inl rfl)) _)
  have HI := Lib.hid hI
  have HP := Lib.hid hP
  have HN := Lib.hid hn
  have HNW := Lib.hid (show 0 ≤ s.now ∧ s.now ≤ 1000000000 from ⟨h0, h1⟩)
  have HB := Lib.hid hb
  have HTT := Lib.hid (show MqI P (mqTick s) from ⟨tick_ok hI.ok, hI.len, hI.gh⟩)
  have HTTO := Lib.hid (show ∀ y, (mqTick s).often y + 1 ≤ (mqTick s).now from fun y => by have := (hI.ok.often y).2; show s.often y + 1 ≤ s.now + 1; omega)
  have HTTN := Lib.hid (show 1 ≤ (mqTick s).now ∧ (mqTick s).now ≤ 1000000001 from by show 1 ≤ s.now + 1 ∧ s.now + 1 ≤ 1000000001; omega)
  clear h hI hP hb h1 hn h0
  go_enter Tryz.func351, Tryz.ntmps351
  go_upto_region 8 with (go_at_call 356; refine HU.out.mono ?_; rintro e W1 ⟨rfl, rfl⟩)
  change Code.wp _ _ _ _ (w.setCell ⟨p, 5, none⟩ (.int .i64 (s.now + 1)))
  clear x5 f5 HU hwn
  generalize w.setCell ⟨p, 5, none⟩ (.int .i64 (s.now + 1)) = W2 at *
  have x1 : W2.cell? ⟨p, 1, none⟩ = some (.int .i64 P.cap) := HM1.out.m.cap
  have HLE := Lib.hid (show (mqAll P (mqTick s)).length = (mqAll P s).length from rfl)
  have HLN := Lib.hid (fun q => mq_len HP.out (HM1.out.drewN q) HTT.out.ok.dj)
  rw [HLE.out] at HLN
  have HAD := Lib.hid (show mqAdd P s n = if (mqAll P s).length = P.cap then (mqUsed P (mqFresh P (mqEvict P (mqTick s)) n) n, mqVict P (mqTick s), true) else (mqUsed P (mqFresh P (mqTick s) n) n, 0, false) by unfold mqAdd; rw [if_neg HB.out])
  by_cases hc : (mqAll P s).length = P.cap
  · have HEQ := Lib.hid (HAD.out.trans (if_pos hc))
    have hne : mqAll P (mqTick s) ≠ [] := fun e => by have := HP.out.c1; have e : mqAll P s = [] := e; rw [e] at hc; simp at hc; omega
    have HEV := Lib.hid (fun W (hm : MqB W p g eb P (mqTick s)) => mq_evict HP.out hm HTT.out.ok hne)
    obtain ⟨e1, e2, e3, _, _⟩ := evict_inv HP.out HTT.out hne
    have HTK := Lib.hid e1
    have HTN := Lib.hid (show 1 ≤ (mqEvict P (mqTick s)).now ∧ (mqEvict P (mqTick s)).now ≤ 1000000001 by rw [e2]; exact HTTN.out)
    have HTO := Lib.hid (show ∀ y, (mqEvict P (mqTick s)).often y + 1 ≤ (mqEvict P (mqTick s)).now from fun y => by rw [e2, e3]; exact HTTO.out y)
    rw [hc] at HLN
    clear e1 e2 e3 hne hc
    go_quiet ((go_at_call 354; exact quiet_l (HLN.out _)))
    have HM2 := Lib.hid (HM1.out.drewN nq)
    have HO2 := Lib.hid (HO1.out.drewN nq)
    clear x1 HLN HM1 HO1
    generalize W2.drewN nq = W2' at *
    have HE3 := Lib.hid (HEV.out W2' HM2.out)
    go_upto_region 10 with (go_at_call 358; refine HE3.out.mono ?_; rintro e W3 ⟨rfl, hm3, ho3⟩)
    have HM3 := Lib.hid hm3
    have HO3 := Lib.hid (HO2.out.trans ho3)
    clear hm3 ho3 HE3 HEV HM2 HO2 HAD
    generalize mqVict P (mqTick s) = v at *
    generalize mqEvict P (mqTick s) = t at *
    have y0 : W3.cell? ⟨p, 0, none⟩ = some (.pointer (some ⟨g, 0, none⟩)) := HM3.out.m.ptr
    have HFK := Lib.hid (fresh_inv HTK.out (n : Int) HTN.out.1 HTO.out).1
    have HFO := Lib.hid (show (0 ≤ (mqFresh P t n).often n ∧ (mqFresh P t n).often n + 1 ≤ (mqFresh P t n).now) ∧ 0 ≤ (mqFresh P t n).now ∧ (mqFresh P t n).now ≤ 1000000001 from by
      obtain ⟨f1, f2, f3, f4⟩ := fresh_inv HTK.out (n : Int) HTN.out.1 HTO.out
      have h2 := HTN.out
      exact ⟨⟨(f1.often n).1, by omega⟩, by omega, by omega⟩)
    by_cases hin : ∃ i, (n : Int) ∈ t.S i
    · have HFE := Lib.hid (show mqFresh P t n = t by unfold mqFresh; rw [if_pos ((mqIn_iff HTK.out.dj).2 hin)])
      rw [HFE.out] at HFK HFO
      obtain ⟨i, hi⟩ := hin
      have HOF := Lib.hid (of_in (i := i) W3 HM3.out.sp hi)
      rw [HFE.out] at HEQ
      clear hi HFE
      go_upto_region 13 with (go_at_call 295; refine HOF.out.mono ?_; rintro e W4 ⟨rfl, rfl⟩)
      obtain ⟨W5, hw5⟩ : ∃ W5, W5 = W3 := ⟨_, rfl⟩
      rw [← hw5] at HM3 HO3 ⊢
      clear hw5 HOF y0
      generalize t = f at *
      have HM5 := Lib.hid (show MqB W5 p g eb P f from HM3.out)
      have HO5 := Lib.hid (show Only (Tri p g eb) w W5 from HO3.out)
      have xo : W5.drew.cell? ⟨p, 6 + n, none⟩ = some (.int .i64 (f.often n)) := HM5.out.m.often HN.out
      have fo : W5.drew.frozen? ⟨p, 6 + n, none⟩ = false := Box.free HM5.out.m _
      have hwo : IntKind.i64.wrap (f.often n + 1) = f.often n + 1 := by have := HFO.out; rw [IntKind.wrap_i64]; omega
      have HM6 := Lib.hid (show MqB (W5.setCell ⟨p, 6 + n, none⟩ (.int .i64 (f.often n + 1))).drew p g eb P (mqMore f n) from (HM5.out.setOften HN.out _).drew)
      have HO6 := Lib.hid (show Only (Tri p g eb) w (W5.setCell ⟨p, 6 + n, none⟩ (.int .i64 (f.often n + 1))).drew from (HO5.out.setCell (p := ⟨p, 6 + n, none⟩) (.inl (.inl rfl)) _).drew)
      refine wp_region_tail (S := (fun w' : World => w' = W5.drew)) 10 (by kernel_rfl) (by kernel_rfl) ?_ ?_
      · rfl
      intro hSS
      refine wpHd_take (i := 0) (v := ?_) (by kernel_rfl) rfl (by kernel_rfl) (fun _ _ _ h => h) (.inl ⟨by rfl, ?_⟩) hSS ?_
      rotate_left
      · intro w hSw; (try dsimp only at hSw); go_simp; (try with_reducible rfl)
      refine wpHd_take (i := 1) (v := ?_) (by kernel_rfl) rfl (by kernel_rfl) (fun _ _ _ h => h) (.inl ⟨by rfl, ?_⟩) hSS ?_
      rotate_left
      · intro w hSw; (try dsimp only at hSw); go_simp; (try with_reducible rfl)
      refine wpHd_take (i := 2) (v := ?_) (by kernel_rfl) rfl (by kernel_rfl) (fun _ _ _ h => h) (.inl ⟨by rfl, ?_⟩) hSS ?_
      rotate_left
      · intro w hSw; (try dsimp only at hSw); go_simp; (try with_reducible rfl)
      refine wpHd_take (i := 3) (v := ?_) (by kernel_rfl) rfl (by kernel_rfl) (fun _ _ _ h => h) (.inl ⟨by rfl, ?_⟩) hSS ?_
      rotate_left
      · intro w hSw; (try dsimp only at hSw); go_simp; (try with_reducible rfl)
      refine wpHd_take (i := 4) (v := ?_) (by kernel_rfl) rfl (by kernel_rfl) (fun _ _ _ h => h) (.inl ⟨by rfl, ?_⟩) hSS ?_
      rotate_left
      · intro w hSw; (try dsimp only at hSw); go_simp; (try with_reducible rfl)
      try simp only [Act.put, List.getElem_toArray, List.getElem_cons_succ, List.getElem_cons_zero, List.setIfInBounds_toArray, List.set_cons_zero, List.set_cons_succ]
      refine wpHd_take (i := 5) (v := ?_) (by kernel_rfl) rfl (by kernel_rfl) (fun _ _ _ h => h) (.inl ⟨by rfl, ?_⟩) hSS ?_
      rotate_left
      · intro w hSw; (try dsimp only at hSw); go_simp; (try with_reducible rfl)
      refine wpHd_take (i := 6) (v := ?_) (by kernel_rfl) rfl (by kernel_rfl) (fun _ _ _ h => h) (.inl ⟨by rfl, ?_⟩) hSS ?_
      rotate_left
      · intro w hSw; (try dsimp only at hSw); go_simp; (try with_reducible rfl)
      refine wpHd_take (i := 7) (v := ?_) (by kernel_rfl) rfl (by kernel_rfl) (fun _ _ _ h => h) (.inl ⟨by rfl, ?_⟩) hSS ?_
      rotate_left
      · intro w hSw; (try dsimp only at hSw); go_simp; (try with_reducible rfl)
      refine wpHd_take (i := 8) (v := ?_) (by kernel_rfl) rfl (by kernel_rfl) (fun _ _ _ h => h) (.inl ⟨by rfl, ?_⟩) hSS ?_
      rotate_left
      · intro w hSw; (try dsimp only at hSw); go_simp; (try with_reducible rfl)
      refine wpHd_take (i := 9) (v := ?_) (by kernel_rfl) rfl (by kernel_rfl) (fun _ _ _ h => h) (.inl ⟨by rfl, ?_⟩) hSS ?_
      rotate_left
      · intro w hSw; (try dsimp only at hSw); go_simp; (try with_reducible rfl)
      try simp only [Act.put, List.getElem_toArray, List.getElem_cons_succ, List.getElem_cons_zero, List.setIfInBounds_toArray, List.set_cons_zero, List.set_cons_succ]
      refine wpHd_end (by kernel_rfl) ?_
      clear hSS
      go_upto_region 14 with fail
      change Code.wp _ _ _ _ (W5.setCell ⟨p, 6 + n, none⟩ (.int .i64 (f.often n + 1))).drew
      clear xo fo hwo
      generalize (W5.setCell ⟨p, 6 + n, none⟩ (.int .i64 (f.often n + 1))).drew = W6 at *
      have HPO := Lib.hid (placed_ok (b := (n : Int)) HP.out HFK.out (by have := HFO.out; omega) hn0 hn1)
      have hoo : (mqMore f n).often n = f.often n + 1 := by show updI f.often n (f.often n + 1) n = _; unfold updI; rw [if_pos rfl]
      have HPL := Lib.hid (mq_place HN.out HP.out HM6.out (by have := HFO.out; show 0 ≤ f.now; omega) (by have := HFO.out; show f.now ≤ 2000000000; omega) (by rw [hoo]; have := HFO.out; omega) (by rw [hoo]; have := HFO.out; omega))
      have HNX := Lib.hid (show (mqPlace P (mqMore f n) n).now ≤ 2000000000 by have := HFO.out; show f.now ≤ 2000000000; omega)
      clear hoo
      go_wp2_with (first | (go_at_call 359; refine HPL.out.mono ?_; rintro e W7 ⟨rfl, hm7, ho7⟩; have HM7 := Lib.hid hm7; have HO7 := Lib.hid (HO6.out.trans ho7); have HAG := Lib.hid (mq_age HP.out hm7 HPO.out HNX.out); clear hm7 ho7) | (go_at_call 357; refine HAG.out.mono ?_; rintro e W8 ⟨rfl, hm8, ho8⟩))
      go_ret3
      exact ⟨by rw [HEQ.out]; rfl, by rw [HEQ.out]; exact hm8, HO7.out.trans ho8⟩
    · have hnf : mqIn P t n ≠ true := fun h => hin ((mqIn_iff HTK.out.dj).1 h)
      have HFE := Lib.hid (show mqFresh P t n = { t with often := updI t.often n 0 } by unfold mqFresh; rw [if_neg hnf])
      have HOF := Lib.hid (of_no W3 HM3.out.sp fun i hi => hin ⟨i, hi⟩)
      have yo : W3.cell? ⟨p, 6 + n, none⟩ = some (.int .i64 (t.often n)) := HM3.out.m.often HN.out
      have yf : W3.frozen? ⟨p, 6 + n, none⟩ = false := Box.free HM3.out.m _
      clear hin hnf
      go_upto_region 13 with (go_at_call 295; refine HOF.out.mono ?_; rintro e W4 ⟨rfl, rfl⟩)
      have HM5' := Lib.hid (show MqB (W3.setCell ⟨p, 6 + n, none⟩ (.int .i64 0)) p g eb P (mqFresh P t n) by rw [HFE.out]; exact HM3.out.setOften HN.out 0)
      have HO5' := Lib.hid (HO3.out.setCell (p := ⟨p, 6 + n, none⟩) (.inl (show Tri p g eb p from .inl rfl)) (.int .i64 0))
      change Code.wp _ _ _ _ (W3.setCell ⟨p, 6 + n, none⟩ (.int .i64 0))
      clear yo yf HOF y0 HFE
      generalize W3.setCell ⟨p, 6 + n, none⟩ (.int .i64 0) = W5 at *
      generalize mqFresh P t n = f at *
      have HM5 := Lib.hid (show MqB W5 p g eb P f from HM5'.out)
      have HO5 := Lib.hid (show Only (Tri p g eb) w W5 from HO5'.out)
      have xo : W5.drew.cell? ⟨p, 6 + n, none⟩ = some (.int .i64 (f.often n)) := HM5.out.m.often HN.out
      have fo : W5.drew.frozen? ⟨p, 6 + n, none⟩ = false := Box.free HM5.out.m _
      have hwo : IntKind.i64.wrap (f.often n + 1) = f.often n + 1 := by have := HFO.out; rw [IntKind.wrap_i64]; omega
      have HM6 := Lib.hid (show MqB (W5.setCell ⟨p, 6 + n, none⟩ (.int .i64 (f.often n + 1))).drew p g eb P (mqMore f n) from (HM5.out.setOften HN.out _).drew)
      have HO6 := Lib.hid (show Only (Tri p g eb) w (W5.setCell ⟨p, 6 + n, none⟩ (.int .i64 (f.often n + 1))).drew from (HO5.out.setCell (p := ⟨p, 6 + n, none⟩) (.inl (.inl rfl)) _).drew)
      refine wp_region_tail (S := (fun w' : World => w' = W5.drew)) 10 (by kernel_rfl) (by kernel_rfl) ?_ ?_
      · rfl
      intro hSS
      refine wpHd_take (i := 0) (v := ?_) (by kernel_rfl) rfl (by kernel_rfl) (fun _ _ _ h => h) (.inl ⟨by rfl, ?_⟩) hSS ?_
      rotate_left
      · intro w hSw; (try dsimp only at hSw); go_simp; (try with_reducible rfl)
      refine wpHd_take (i := 1) (v := ?_) (by kernel_rfl) rfl (by kernel_rfl) (fun _ _ _ h => h) (.inl ⟨by rfl, ?_⟩) hSS ?_
      rotate_left
      · intro w hSw; (try dsimp only at hSw); go_simp; (try with_reducible rfl)
      refine wpHd_take (i := 2) (v := ?_) (by kernel_rfl) rfl (by kernel_rfl) (fun _ _ _ h => h) (.inl ⟨by rfl, ?_⟩) hSS ?_
      rotate_left
      · intro w hSw; (try dsimp only at hSw); go_simp; (try with_reducible rfl)
      refine wpHd_take (i := 3) (v := ?_) (by kernel_rfl) rfl (by kernel_rfl) (fun _ _ _ h => h) (.inl ⟨by rfl, ?_⟩) hSS ?_
      rotate_left
      · intro w hSw; (try dsimp only at hSw); go_simp; (try with_reducible rfl)
      refine wpHd_take (i := 4) (v := ?_) (by kernel_rfl) rfl (by kernel_rfl) (fun _ _ _ h => h) (.inl ⟨by rfl, ?_⟩) hSS ?_
      rotate_left
      · intro w hSw; (try dsimp only at hSw); go_simp; (try with_reducible rfl)
      try simp only [Act.put, List.getElem_toArray, List.getElem_cons_succ, List.getElem_cons_zero, List.setIfInBounds_toArray, List.set_cons_zero, List.set_cons_succ]
      refine wpHd_take (i := 5) (v := ?_) (by kernel_rfl) rfl (by kernel_rfl) (fun _ _ _ h => h) (.inl ⟨by rfl, ?_⟩) hSS ?_
      rotate_left
      · intro w hSw; (try dsimp only at hSw); go_simp; (try with_reducible rfl)
      refine wpHd_take (i := 6) (v := ?_) (by kernel_rfl) rfl (by kernel_rfl) (fun _ _ _ h => h) (.inl ⟨by rfl, ?_⟩) hSS ?_
      rotate_left
      · intro w hSw; (try dsimp only at hSw); go_simp; (try with_reducible rfl)
      refine wpHd_take (i := 7) (v := ?_) (by kernel_rfl) rfl (by kernel_rfl) (fun _ _ _ h => h) (.inl ⟨by rfl, ?_⟩) hSS ?_
      rotate_left
      · intro w hSw; (try dsimp only at hSw); go_simp; (try with_reducible rfl)
      refine wpHd_take (i := 8) (v := ?_) (by kernel_rfl) rfl (by kernel_rfl) (fun _ _ _ h => h) (.inl ⟨by rfl, ?_⟩) hSS ?_
      rotate_left
      · intro w hSw; (try dsimp only at hSw); go_simp; (try with_reducible rfl)
      refine wpHd_take (i := 9) (v := ?_) (by kernel_rfl) rfl (by kernel_rfl) (fun _ _ _ h => h) (.inl ⟨by rfl, ?_⟩) hSS ?_
      rotate_left
      · intro w hSw; (try dsimp only at hSw); go_simp; (try with_reducible rfl)
      try simp only [Act.put, List.getElem_toArray, List.getElem_cons_succ, List.getElem_cons_zero, List.setIfInBounds_toArray, List.set_cons_zero, List.set_cons_succ]
      refine wpHd_end (by kernel_rfl) ?_
      clear hSS
      go_upto_region 14 with fail
      change Code.wp _ _ _ _ (W5.setCell ⟨p, 6 + n, none⟩ (.int .i64 (f.often n + 1))).drew
      clear xo fo hwo
      generalize (W5.setCell ⟨p, 6 + n, none⟩ (.int .i64 (f.often n + 1))).drew = W6 at *
      have HPO := Lib.hid (placed_ok (b := (n : Int)) HP.out HFK.out (by have := HFO.out; omega) hn0 hn1)
      have hoo : (mqMore f n).often n = f.often n + 1 := by show updI f.often n (f.often n + 1) n = _; unfold updI; rw [if_pos rfl]
      have HPL := Lib.hid (mq_place HN.out HP.out HM6.out (by have := HFO.out; show 0 ≤ f.now; omega) (by have := HFO.out; show f.now ≤ 2000000000; omega) (by rw [hoo]; have := HFO.out; omega) (by rw [hoo]; have := HFO.out; omega))
      have HNX := Lib.hid (show (mqPlace P (mqMore f n) n).now ≤ 2000000000 by have := HFO.out; show f.now ≤ 2000000000; omega)
      clear hoo
      go_wp2_with (first | (go_at_call 359; refine HPL.out.mono ?_; rintro e W7 ⟨rfl, hm7, ho7⟩; have HM7 := Lib.hid hm7; have HO7 := Lib.hid (HO6.out.trans ho7); have HAG := Lib.hid (mq_age HP.out hm7 HPO.out HNX.out); clear hm7 ho7) | (go_at_call 357; refine HAG.out.mono ?_; rintro e W8 ⟨rfl, hm8, ho8⟩))
      go_ret3
      exact ⟨by rw [HEQ.out]; rfl, by rw [HEQ.out]; exact hm8, HO7.out.trans ho8⟩
  · have HEQ := Lib.hid (HAD.out.trans (if_neg hc))
    have hcb : (((mqAll P s).length : Int) == (P.cap : Int)) = false := by simp; omega
    have hcb2 : ¬ (mqAll P s).length = P.cap := hc
    have HTK := Lib.hid HTT.out.ok
    have HTN := Lib.hid HTTN.out
    have HTO := Lib.hid HTTO.out
    generalize (mqAll P s).length = len at *
    clear hc
    go_quiet ((go_at_call 354; exact quiet_l (HLN.out _)))
    have HM3 := Lib.hid (HM1.out.drewN nq)
    have HO3 := Lib.hid (HO1.out.drewN nq)
    clear x1 HLN HM1 HO1 HAD HTT HTTO HTTN HLE
    generalize W2.drewN nq = W3 at *
    generalize mqTick s = t at *
    go_upto_region 10 with fail
    have y0 : W3.cell? ⟨p, 0, none⟩ = some (.pointer (some ⟨g, 0, none⟩)) := HM3.out.m.ptr
    have HFK := Lib.hid (fresh_inv HTK.out (n : Int) HTN.out.1 HTO.out).1
    have HFO := Lib.hid (show (0 ≤ (mqFresh P t n).often n ∧ (mqFresh P t n).often n + 1 ≤ (mqFresh P t n).now) ∧ 0 ≤ (mqFresh P t n).now ∧ (mqFresh P t n).now ≤ 1000000001 from by
      obtain ⟨f1, f2, f3, f4⟩ := fresh_inv HTK.out (n : Int) HTN.out.1 HTO.out
      have h2 := HTN.out
      exact ⟨⟨(f1.often n).1, by omega⟩, by omega, by omega⟩)
    by_cases hin : ∃ i, (n : Int) ∈ t.S i
    · have HFE := Lib.hid (show mqFresh P t n = t by unfold mqFresh; rw [if_pos ((mqIn_iff HTK.out.dj).2 hin)])
      rw [HFE.out] at HFK HFO
      obtain ⟨i, hi⟩ := hin
      have HOF := Lib.hid (of_in (i := i) W3 HM3.out.sp hi)
      rw [HFE.out] at HEQ
      clear hi HFE
      go_upto_region 13 with (go_at_call 295; refine HOF.out.mono ?_; rintro e W4 ⟨rfl, rfl⟩)
      obtain ⟨W5, hw5⟩ : ∃ W5, W5 = W3 := ⟨_, rfl⟩
      rw [← hw5] at HM3 HO3 ⊢
      clear hw5 HOF y0
      generalize t = f at *
      have HM5 := Lib.hid (show MqB W5 p g eb P f from HM3.out)
      have HO5 := Lib.hid (show Only (Tri p g eb) w W5 from HO3.out)
      have xo : W5.drew.cell? ⟨p, 6 + n, none⟩ = some (.int .i64 (f.often n)) := HM5.out.m.often HN.out
      have fo : W5.drew.frozen? ⟨p, 6 + n, none⟩ = false := Box.free HM5.out.m _
      have hwo : IntKind.i64.wrap (f.often n + 1) = f.often n + 1 := by have := HFO.out; rw [IntKind.wrap_i64]; omega
      have HM6 := Lib.hid (show MqB (W5.setCell ⟨p, 6 + n, none⟩ (.int .i64 (f.often n + 1))).drew p g eb P (mqMore f n) from (HM5.out.setOften HN.out _).drew)
      have HO6 := Lib.hid (show Only (Tri p g eb) w (W5.setCell ⟨p, 6 + n, none⟩ (.int .i64 (f.often n + 1))).drew from (HO5.out.setCell (p := ⟨p, 6 + n, none⟩) (.inl (.inl rfl)) _).drew)
      refine wp_region_tail (S := (fun w' : World => w' = W5.drew)) 10 (by kernel_rfl) (by kernel_rfl) ?_ ?_
      · rfl
      intro hSS
      refine wpHd_take (i := 0) (v := ?_) (by kernel_rfl) rfl (by kernel_rfl) (fun _ _ _ h => h) (.inl ⟨by rfl, ?_⟩) hSS ?_
      rotate_left
      · intro w hSw; (try dsimp only at hSw); go_simp; (try with_reducible rfl)
      refine wpHd_take (i := 1) (v := ?_) (by kernel_rfl) rfl (by kernel_rfl) (fun _ _ _ h => h) (.inl ⟨by rfl, ?_⟩) hSS ?_
      rotate_left
      · intro w hSw; (try dsimp only at hSw); go_simp; (try with_reducible rfl)
      refine wpHd_take (i := 2) (v := ?_) (by kernel_rfl) rfl (by kernel_rfl) (fun _ _ _ h => h) (.inl ⟨by rfl, ?_⟩) hSS ?_
      rotate_left
      · intro w hSw; (try dsimp only at hSw); go_simp; (try with_reducible rfl)
      refine wpHd_take (i := 3) (v := ?_) (by kernel_rfl) rfl (by kernel_rfl) (fun _ _ _ h => h) (.inl ⟨by rfl, ?_⟩) hSS ?_
      rotate_left
      · intro w hSw; (try dsimp only at hSw); go_simp; (try with_reducible rfl)
      refine wpHd_take (i := 4) (v := ?_) (by kernel_rfl) rfl (by kernel_rfl) (fun _ _ _ h => h) (.inl ⟨by rfl, ?_⟩) hSS ?_
      rotate_left
      · intro w hSw; (try dsimp only at hSw); go_simp; (try with_reducible rfl)
      try simp only [Act.put, List.getElem_toArray, List.getElem_cons_succ, List.getElem_cons_zero, List.setIfInBounds_toArray, List.set_cons_zero, List.set_cons_succ]
      refine wpHd_take (i := 5) (v := ?_) (by kernel_rfl) rfl (by kernel_rfl) (fun _ _ _ h => h) (.inl ⟨by rfl, ?_⟩) hSS ?_
      rotate_left
      · intro w hSw; (try dsimp only at hSw); go_simp; (try with_reducible rfl)
      refine wpHd_take (i := 6) (v := ?_) (by kernel_rfl) rfl (by kernel_rfl) (fun _ _ _ h => h) (.inl ⟨by rfl, ?_⟩) hSS ?_
      rotate_left
      · intro w hSw; (try dsimp only at hSw); go_simp; (try with_reducible rfl)
      refine wpHd_take (i := 7) (v := ?_) (by kernel_rfl) rfl (by kernel_rfl) (fun _ _ _ h => h) (.inl ⟨by rfl, ?_⟩) hSS ?_
      rotate_left
      · intro w hSw; (try dsimp only at hSw); go_simp; (try with_reducible rfl)
      refine wpHd_take (i := 8) (v := ?_) (by kernel_rfl) rfl (by kernel_rfl) (fun _ _ _ h => h) (.inl ⟨by rfl, ?_⟩) hSS ?_
      rotate_left
      · intro w hSw; (try dsimp only at hSw); go_simp; (try with_reducible rfl)
      refine wpHd_take (i := 9) (v := ?_) (by kernel_rfl) rfl (by kernel_rfl) (fun _ _ _ h => h) (.inl ⟨by rfl, ?_⟩) hSS ?_
      rotate_left
      · intro w hSw; (try dsimp only at hSw); go_simp; (try with_reducible rfl)
      try simp only [Act.put, List.getElem_toArray, List.getElem_cons_succ, List.getElem_cons_zero, List.setIfInBounds_toArray, List.set_cons_zero, List.set_cons_succ]
      refine wpHd_end (by kernel_rfl) ?_
      clear hSS
      go_upto_region 14 with fail
      change Code.wp _ _ _ _ (W5.setCell ⟨p, 6 + n, none⟩ (.int .i64 (f.often n + 1))).drew
      clear xo fo hwo
      generalize (W5.setCell ⟨p, 6 + n, none⟩ (.int .i64 (f.often n + 1))).drew = W6 at *
      have HPO := Lib.hid (placed_ok (b := (n : Int)) HP.out HFK.out (by have := HFO.out; omega) hn0 hn1)
      have hoo : (mqMore f n).often n = f.often n + 1 := by show updI f.often n (f.often n + 1) n = _; unfold updI; rw [if_pos rfl]
      have HPL := Lib.hid (mq_place HN.out HP.out HM6.out (by have := HFO.out; show 0 ≤ f.now; omega) (by have := HFO.out; show f.now ≤ 2000000000; omega) (by rw [hoo]; have := HFO.out; omega) (by rw [hoo]; have := HFO.out; omega))
      have HNX := Lib.hid (show (mqPlace P (mqMore f n) n).now ≤ 2000000000 by have := HFO.out; show f.now ≤ 2000000000; omega)
      clear hoo
      go_wp2_with (first | (go_at_call 359; refine HPL.out.mono ?_; rintro e W7 ⟨rfl, hm7, ho7⟩; have HM7 := Lib.hid hm7; have HO7 := Lib.hid (HO6.out.trans ho7); have HAG := Lib.hid (mq_age HP.out hm7 HPO.out HNX.out); clear hm7 ho7) | (go_at_call 357; refine HAG.out.mono ?_; rintro e W8 ⟨rfl, hm8, ho8⟩))
      go_ret3
      exact ⟨by rw [HEQ.out]; rfl, by rw [HEQ.out]; exact hm8, HO7.out.trans ho8⟩
    · have hnf : mqIn P t n ≠ true := fun h => hin ((mqIn_iff HTK.out.dj).1 h)
      have HFE := Lib.hid (show mqFresh P t n = { t with often := updI t.often n 0 } by unfold mqFresh; rw [if_neg hnf])
      have HOF := Lib.hid (of_no W3 HM3.out.sp fun i hi => hin ⟨i, hi⟩)
      have yo : W3.cell? ⟨p, 6 + n, none⟩ = some (.int .i64 (t.often n)) := HM3.out.m.often HN.out
      have yf : W3.frozen? ⟨p, 6 + n, none⟩ = false := Box.free HM3.out.m _
      clear hin hnf
      go_upto_region 13 with (go_at_call 295; refine HOF.out.mono ?_; rintro e W4 ⟨rfl, rfl⟩)
      have HM5' := Lib.hid (show MqB (W3.setCell ⟨p, 6 + n, none⟩ (.int .i64 0)) p g eb P (mqFresh P t n) by rw [HFE.out]; exact HM3.out.setOften HN.out 0)
      have HO5' := Lib.hid (HO3.out.setCell (p := ⟨p, 6 + n, none⟩) (.inl (show Tri p g eb p from .inl rfl)) (.int .i64 0))
      change Code.wp _ _ _ _ (W3.setCell ⟨p, 6 + n, none⟩ (.int .i64 0))
      clear yo yf HOF y0 HFE
      generalize W3.setCell ⟨p, 6 + n, none⟩ (.int .i64 0) = W5 at *
      generalize mqFresh P t n = f at *
      have HM5 := Lib.hid (show MqB W5 p g eb P f from HM5'.out)
      have HO5 := Lib.hid (show Only (Tri p g eb) w W5 from HO5'.out)
      have xo : W5.drew.cell? ⟨p, 6 + n, none⟩ = some (.int .i64 (f.often n)) := HM5.out.m.often HN.out
      have fo : W5.drew.frozen? ⟨p, 6 + n, none⟩ = false := Box.free HM5.out.m _
      have hwo : IntKind.i64.wrap (f.often n + 1) = f.often n + 1 := by have := HFO.out; rw [IntKind.wrap_i64]; omega
      have HM6 := Lib.hid (show MqB (W5.setCell ⟨p, 6 + n, none⟩ (.int .i64 (f.often n + 1))).drew p g eb P (mqMore f n) from (HM5.out.setOften HN.out _).drew)
      have HO6 := Lib.hid (show Only (Tri p g eb) w (W5.setCell ⟨p, 6 + n, none⟩ (.int .i64 (f.often n + 1))).drew from (HO5.out.setCell (p := ⟨p, 6 + n, none⟩) (.inl (.inl rfl)) _).drew)
      refine wp_region_tail (S := (fun w' : World => w' = W5.drew)) 10 (by kernel_rfl) (by kernel_rfl) ?_ ?_
      · rfl
      intro hSS
      refine wpHd_take (i := 0) (v := ?_) (by kernel_rfl) rfl (by kernel_rfl) (fun _ _ _ h => h) (.inl ⟨by rfl, ?_⟩) hSS ?_
      rotate_left
      · intro w hSw; (try dsimp only at hSw); go_simp; (try with_reducible rfl)
      refine wpHd_take (i := 1) (v := ?_) (by kernel_rfl) rfl (by kernel_rfl) (fun _ _ _ h => h) (.inl ⟨by rfl, ?_⟩) hSS ?_
      rotate_left
      · intro w hSw; (try dsimp only at hSw); go_simp; (try with_reducible rfl)
      refine wpHd_take (i := 2) (v := ?_) (by kernel_rfl) rfl (by kernel_rfl) (fun _ _ _ h => h) (.inl ⟨by rfl, ?_⟩) hSS ?_
      rotate_left
      · intro w hSw; (try dsimp only at hSw); go_simp; (try with_reducible rfl)
      refine wpHd_take (i := 3) (v := ?_) (by kernel_rfl) rfl (by kernel_rfl) (fun _ _ _ h => h) (.inl ⟨by rfl, ?_⟩) hSS ?_
      rotate_left
      · intro w hSw; (try dsimp only at hSw); go_simp; (try with_reducible rfl)
      refine wpHd_take (i := 4) (v := ?_) (by kernel_rfl) rfl (by kernel_rfl) (fun _ _ _ h => h) (.inl ⟨by rfl, ?_⟩) hSS ?_
      rotate_left
      · intro w hSw; (try dsimp only at hSw); go_simp; (try with_reducible rfl)
      try simp only [Act.put, List.getElem_toArray, List.getElem_cons_succ, List.getElem_cons_zero, List.setIfInBounds_toArray, List.set_cons_zero, List.set_cons_succ]
      refine wpHd_take (i := 5) (v := ?_) (by kernel_rfl) rfl (by kernel_rfl) (fun _ _ _ h => h) (.inl ⟨by rfl, ?_⟩) hSS ?_
      rotate_left
      · intro w hSw; (try dsimp only at hSw); go_simp; (try with_reducible rfl)
      refine wpHd_take (i := 6) (v := ?_) (by kernel_rfl) rfl (by kernel_rfl) (fun _ _ _ h => h) (.inl ⟨by rfl, ?_⟩) hSS ?_
      rotate_left
      · intro w hSw; (try dsimp only at hSw); go_simp; (try with_reducible rfl)
      refine wpHd_take (i := 7) (v := ?_) (by kernel_rfl) rfl (by kernel_rfl) (fun _ _ _ h => h) (.inl ⟨by rfl, ?_⟩) hSS ?_
      rotate_left
      · intro w hSw; (try dsimp only at hSw); go_simp; (try with_reducible rfl)
      refine wpHd_take (i := 8) (v := ?_) (by kernel_rfl) rfl (by kernel_rfl) (fun _ _ _ h => h) (.inl ⟨by rfl, ?_⟩) hSS ?_
      rotate_left
      · intro w hSw; (try dsimp only at hSw); go_simp; (try with_reducible rfl)
      refine wpHd_take (i := 9) (v := ?_) (by kernel_rfl) rfl (by kernel_rfl) (fun _ _ _ h => h) (.inl ⟨by rfl, ?_⟩) hSS ?_
      rotate_left
      · intro w hSw; (try dsimp only at hSw); go_simp; (try with_reducible rfl)
      try simp only [Act.put, List.getElem_toArray, List.getElem_cons_succ, List.getElem_cons_zero, List.setIfInBounds_toArray, List.set_cons_zero, List.set_cons_succ]
      refine wpHd_end (by kernel_rfl) ?_
      clear hSS
      go_upto_region 14 with fail
      change Code.wp _ _ _ _ (W5.setCell ⟨p, 6 + n, none⟩ (.int .i64 (f.often n + 1))).drew
      clear xo fo hwo
      generalize (W5.setCell ⟨p, 6 + n, none⟩ (.int .i64 (f.often n + 1))).drew = W6 at *
      have HPO := Lib.hid (placed_ok (b := (n : Int)) HP.out HFK.out (by have := HFO.out; omega) hn0 hn1)
      have hoo : (mqMore f n).often n = f.often n + 1 := by show updI f.often n (f.often n + 1) n = _; unfold updI; rw [if_pos rfl]
      have HPL := Lib.hid (mq_place HN.out HP.out HM6.out (by have := HFO.out; show 0 ≤ f.now; omega) (by have := HFO.out; show f.now ≤ 2000000000; omega) (by rw [hoo]; have := HFO.out; omega) (by rw [hoo]; have := HFO.out; omega))
      have HNX := Lib.hid (show (mqPlace P (mqMore f n) n).now ≤ 2000000000 by have := HFO.out; show f.now ≤ 2000000000; omega)
      clear hoo
      go_wp2_with (first | (go_at_call 359; refine HPL.out.mono ?_; rintro e W7 ⟨rfl, hm7, ho7⟩; have HM7 := Lib.hid hm7; have HO7 := Lib.hid (HO6.out.trans ho7); have HAG := Lib.hid (mq_age HP.out hm7 HPO.out HNX.out); clear hm7 ho7) | (go_at_call 357; refine HAG.out.mono ?_; rintro e W8 ⟨rfl, hm8, ho8⟩))
      go_ret3
      exact ⟨by rw [HEQ.out]; rfl, by rw [HEQ.out]; exact hm8, HO7.out.trans ho8⟩
theorem mq_add {n : Nat} (hP : P.Ok) (h : MqB w p g eb P s) (hI : MqI P s) (h1 : s.now ≤ 1000000000) (hn : n < 64) :
    Calls Tryz.prog 351 #[.pointer (some ⟨p, 0, none⟩), .int .i64 n] w (MqAddPost p g eb P s n w) := by
  by_cases hb : (n : Int) ∈ mqAll P s
  · exact mq_add_in hP h hI.ok h1 hb
  · exact mq_add_new hP h hI h1 hn hb
end
end Go.Proofs.YtodephhlhdbeoaaGreat
