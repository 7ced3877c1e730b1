/- Several texts, one behind the other: Ale Pla Plb Plc. -/
import Derived.Test.YtodephhlhdbeoaaGreatM15
import Derived.Test.YtodephhlhdbeoaaGreatM17
namespace Go.Proofs.YtodephhlhdbeoaaGreat
open Go.RowKit Go.ChangeShapes Go.WideShapes
set_option linter.unusedVariables false
set_option linter.unusedSimpArgs false
def planC0 (blocks : Int) (q : Nat → Int) (h p : Value) : Array Value := #[.int .i64 blocks, .int .i64 (q 0), .int .i64 (q 1), .int .i64 (q 2), h, p]
theorem planC0_cap (blocks : Int) (q : Nat → Int) (h p : Value) {j : Nat} {v : Value} (hj : (capC q).toList[j]? = some v) : (planC0 blocks q h p)[1 + j]? = some v := by
  have h3 : j < 3 := (List.getElem?_eq_some_iff.1 hj).1
  rcases (show j = 0 ∨ j = 1 ∨ j = 2 by omega) with rfl | rfl | rfl <;> exact hj
theorem built_plan (blocks : Int) (q : Nat → Int) : Tryz.prog.built 312 [(0, .int .i64 blocks), (1, .agg (capC q))] = some (planC0 blocks q (.slice none 0 0) (.slice none 0 0)) := by kernel_rfl
def PlanNew (pb : Nat) (blocks : Int) (q : Nat → Int) (l : List HintA) (w w' : World) : Prop :=
  ∃ i : PlanI, i.pb = pb ∧ PlanB w' i blocks q l (alcO l q) ∧ (∀ k, i.F k → k = pb ∨ w.heap.size ≤ k) ∧ Only (Just pb) w w'
section
set_option maxHeartbeats 4000000
set_option maxRecDepth 100000
theorem plan_set {pb : Nat} {blocks : Int} {q : Nat → Int} {l : List HintA} {A : Option Addr} {n c : Nat} {h0 p0 : Value} (w : World) (hx : Box w pb 312 (planC0 blocks q h0 p0)) (hin : HintsAt w A n c l) (hP : hintsP blocks l)
    (hb : 1 ≤ blocks ∧ blocks ≤ 32) (hq : ∀ t, t < 3 → 0 ≤ q t ∧ q t ≤ 16) :
    Calls Tryz.prog 215 #[.pointer (some ⟨pb, 0, none⟩), .slice A n c] w fun e w' => e = .returned (.int .i64 0) ∧ PlanNew pb blocks q l w w' := by
  have HX := Lib.hid hx
  have HIN := Lib.hid hin
  have HP := Lib.hid hP
  have HQ := Lib.hid hq
  have HL := Lib.hid (show l.length ≤ 100 by have := hP.2.2; omega)
  have HC := hints_any A n c l blocks w hin hb.1 hb.2
  rw [hintsB_yes hP] at HC
  have HC := Lib.hid HC
  have x0 : w.cell? ⟨pb, 0, none⟩ = some (.int .i64 blocks) := hx.cellAt rfl
  have HLT := Lib.hid hx.lt
  clear hx hin hP hb hq
  go_enter Tryz.func215, Tryz.ntmps215
  go_upto_region 5 with (go_at_call 155; refine HC.out.mono ?_; rintro e W2 ⟨rfl, ho2⟩)
  have HX2 := Lib.hid (ho2.box HX.out id)
  have HO2 := Lib.hid ho2
  clear ho2 x0 HC
  refine wp_region_tail (S := (fun w' : World => (∃ h, Box w' pb 312 (planC0 blocks q h p0)) ∧ Only (Just pb) w w')) 13 (by kernel_rfl) (by kernel_rfl) ?_ ?_
  · first | exact ⟨⟨_, HX5.out⟩, ((HO3.out.trans HO34.out).mono fun _ hk => hk.elim).trans HO5.out⟩ | exact ⟨⟨_, HX4.out⟩, (HO3.out.trans HO34.out).mono fun _ hk => hk.elim⟩ | exact ⟨⟨_, HX3.out⟩, HO3.out.mono fun _ hk => hk.elim⟩ | exact ⟨⟨_, HX2.out.drew⟩, HO2.out.drew.mono fun _ hk => hk.elim⟩
  intro hSS
  refine wpHd_take (i := 0) (v := ?_) (by kernel_rfl) rfl (by kernel_rfl) (fun _ _ _ h => h) (.inl ⟨by rfl, ?_⟩) hSS ?_
  rotate_left
  · intro w hSw; (try dsimp only at hSw); go_simp; (try with_reducible rfl)
  refine wpHd_take (i := 1) (v := ?_) (by kernel_rfl) rfl (by kernel_rfl) (fun _ _ _ h => h) (.inl ⟨by rfl, ?_⟩) hSS ?_
  rotate_left
  · intro w hSw; (try dsimp only at hSw); go_simp; (try with_reducible rfl)
  refine wpHd_take (i := 2) (v := ?_) (by kernel_rfl) rfl (by kernel_rfl) (fun _ _ _ h => h) (.inl ⟨by rfl, ?_⟩) hSS ?_
  rotate_left
  · intro w hSw; (try dsimp only at hSw); go_simp; (try with_reducible rfl)
  refine wpHd_take (i := 4) (v := ?_) (by kernel_rfl) rfl (by kernel_rfl) (fun _ _ _ h => h) (.inl ⟨by rfl, ?_⟩) hSS ?_
  rotate_left
  · intro w hSw; (try dsimp only at hSw); go_simp; (try with_reducible rfl)
  refine wpHd_take (i := 5) (v := ?_) (by kernel_rfl) rfl (by kernel_rfl) (fun _ _ _ h => h) (.inl ⟨by rfl, ?_⟩) hSS ?_
  rotate_left
  · intro w hSw; (try dsimp only at hSw); go_simp; (try with_reducible rfl)
  try simp only [Act.put, List.getElem_toArray, List.getElem_cons_succ, List.getElem_cons_zero, List.setIfInBounds_toArray, List.set_cons_zero, List.set_cons_succ]
  refine wpHd_take (i := 6) (v := ?_) (by kernel_rfl) rfl (by kernel_rfl) (fun _ _ _ h => h) (.inl ⟨by rfl, ?_⟩) hSS ?_
  rotate_left
  · intro w hSw; (try dsimp only at hSw); go_simp; (try with_reducible rfl)
  refine wpHd_take (i := 7) (v := ?_) (by kernel_rfl) rfl (by kernel_rfl) (fun _ _ _ h => h) (.inl ⟨by rfl, ?_⟩) hSS ?_
  rotate_left
  · intro w hSw; (try dsimp only at hSw); go_simp; (try with_reducible rfl)
  refine wpHd_take (i := 8) (v := .agg (capC q)) (by kernel_rfl) rfl (by kernel_rfl) (fun _ _ _ h => h) (yieldsIf_load_mid (by rfl) 22 _ rfl pb 1 rfl (capC q).toList _ (fun w hw j v hj => hw.1.elim fun h hb => hb.cellAt (planC0_cap blocks q h p0 hj)) Tryz.underlying22 rfl (by kernel_rfl)) (by assumption) ?_
  try simp only [Act.put, List.getElem_toArray, List.getElem_cons_succ, List.getElem_cons_zero, List.setIfInBounds_toArray, List.set_cons_zero, List.set_cons_succ]
  refine wpHd_one (i := 3) rfl (by kernel_rfl) (fun K hK => ?_)
  go_simp
  refine (hclone_typed W2.drew (HIN.out.keep (HO2.out.drew)) HL.out).mono ?_
  rintro e W3 ⟨B, cp2, rfl, hh3, ho3, hown3, htt3⟩
  have HX3 := Lib.hid (ho3.box HX2.out.drew id)
  have HH3 := Lib.hid hh3
  have HN3 := Lib.hid hown3
  have HT3 := Lib.hid htt3
  have HO3 := Lib.hid (HO2.out.drew.trans ho3)
  clear hh3 hown3 ho3 htt3
  refine hK.out _ _ ?_ (fun hSS => ?_)
  · first | exact ⟨⟨_, HX5.out⟩, ((HO3.out.trans HO34.out).mono fun _ hk => hk.elim).trans HO5.out⟩ | exact ⟨⟨_, HX4.out⟩, (HO3.out.trans HO34.out).mono fun _ hk => hk.elim⟩ | exact ⟨⟨_, HX3.out⟩, HO3.out.mono fun _ hk => hk.elim⟩ | exact ⟨⟨_, HX2.out.drew⟩, HO2.out.drew.mono fun _ hk => hk.elim⟩
  clear hK
  try simp only [Act.put, List.getElem_toArray, List.getElem_cons_succ, List.getElem_cons_zero, List.setIfInBounds_toArray, List.set_cons_zero, List.set_cons_succ]
  refine wpHd_one (i := 9) rfl (by kernel_rfl) (fun K hK => ?_)
  go_simp
  refine (allocate_any W3 (HIN.out.keep HO3.out) HP.out HQ.out).mono ?_
  rintro e W4 ⟨ob, rfl, hb4, hob, ho4⟩
  have HX4 := Lib.hid (ho4.box HX3.out id)
  have HB4 := Lib.hid hb4
  have HOB := Lib.hid hob
  have HO34 := Lib.hid ho4
  clear hb4 hob ho4
  refine hK.out _ _ ?_ (fun hSS => ?_)
  · first | exact ⟨⟨_, HX5.out⟩, ((HO3.out.trans HO34.out).mono fun _ hk => hk.elim).trans HO5.out⟩ | exact ⟨⟨_, HX4.out⟩, (HO3.out.trans HO34.out).mono fun _ hk => hk.elim⟩ | exact ⟨⟨_, HX3.out⟩, HO3.out.mono fun _ hk => hk.elim⟩ | exact ⟨⟨_, HX2.out.drew⟩, HO2.out.drew.mono fun _ hk => hk.elim⟩
  clear hK
  refine wpHd_take (i := 10) (v := ?_) (by kernel_rfl) rfl (by kernel_rfl) (fun _ _ _ h => h) (.inl ⟨by rfl, ?_⟩) hSS ?_
  rotate_left
  · intro w hSw; (try dsimp only at hSw); go_simp; (try with_reducible rfl)
  refine wpHd_take (i := 11) (v := ?_) (by kernel_rfl) rfl (by kernel_rfl) (fun _ _ _ h => h) (.inl ⟨by rfl, ?_⟩) hSS ?_
  rotate_left
  · intro w hSw; (try dsimp only at hSw); go_simp; (try with_reducible rfl)
  try simp only [Act.put, List.getElem_toArray, List.getElem_cons_succ, List.getElem_cons_zero, List.setIfInBounds_toArray, List.set_cons_zero, List.set_cons_succ]
  refine wpHd_one (i := 12) rfl (by kernel_rfl) (fun K hK => ?_)
  have hf4 := HX4.out.free 4
  have hc4 : W4.cell? ⟨pb, 4, none⟩ = some h0 := HX4.out.cellAt rfl
  go_simp
  have HX5 := Lib.hid (show Box (W4.setCell ⟨pb, 4, none⟩ (.slice B l.length cp2)) pb 312 (planC0 blocks q (.slice B l.length cp2) p0) from HX4.out.store 4 _)
  have HO5 := Lib.hid ((Only.refl (Just pb) W4).setCell (p := ⟨pb, 4, none⟩) (.inl (show Just pb pb from rfl)) (.slice B l.length cp2))
  refine hK.out _ _ ?_ (fun hSS => ?_)
  · first | exact ⟨⟨_, HX5.out⟩, ((HO3.out.trans HO34.out).mono fun _ hk => hk.elim).trans HO5.out⟩ | exact ⟨⟨_, HX4.out⟩, (HO3.out.trans HO34.out).mono fun _ hk => hk.elim⟩ | exact ⟨⟨_, HX3.out⟩, HO3.out.mono fun _ hk => hk.elim⟩ | exact ⟨⟨_, HX2.out.drew⟩, HO2.out.drew.mono fun _ hk => hk.elim⟩
  clear hK
  try simp only [Act.put, List.getElem_toArray, List.getElem_cons_succ, List.getElem_cons_zero, List.setIfInBounds_toArray, List.set_cons_zero, List.set_cons_succ]
  refine wpHd_end (by kernel_rfl) ?_
  clear hSS
  have hf5 := HX5.out.free 5
  have hc5 : (W4.setCell ⟨pb, 4, none⟩ (.slice B l.length cp2)).cell? ⟨pb, 5, none⟩ = some p0 := HX5.out.cellAt rfl
  generalize W4.setCell ⟨pb, 4, none⟩ (.slice B l.length cp2) = W5 at *
  go_wp2
  go_ret
  have hlt := HLT.out
  have hs3 := HO3.out.size
  have hb9 := HX5.out.store 5 (.slice (some ⟨ob, 0, none⟩) l.length l.length)
  have ho9 : Only (Just pb) W4 (W5.setCell ⟨pb, 5, none⟩ (.slice (some ⟨ob, 0, none⟩) l.length l.length)) :=
    HO5.out.setCell (p := ⟨pb, 5, none⟩) (.inl (show Just pb pb from rfl)) _
  refine ⟨rfl, ⟨pb, ob, B, cp2⟩, rfl, ⟨hb9, (HH3.out.keep HO34.out).far ho9 fun h0 k hk e => ?_, ho9.box HB4.out fun e => ?_, HP.out, fun h0 k o e => ?_⟩, fun k hk => ?_, ((HO3.out.trans HO34.out).mono fun _ hk => hk.elim).trans ho9⟩
  · have h1 := HN3.out k hk
    have h2 : k = pb := e
    have h3 := HO2.out.size
    have : W2.drew.heap.size = W2.heap.size := rfl
    omega
  · have h1 := HOB.out
    have h2 : ob = pb := e
    omega
  · have e : B = some ⟨k, o, none⟩ := e
    have hk : ownB (.slice B l.length cp2) k := by rw [e]; exact ownB_slice.2 rfl
    obtain ⟨cs, hb⟩ := HT3.out k hk
    have h1 := HN3.out k hk
    have h3 := HO2.out.size
    have : W2.drew.heap.size = W2.heap.size := rfl
    exact ⟨cs, ho9.box (HO34.out.box hb id) fun e2 => by
      have h2 : k = pb := e2
      omega⟩
  · have h3 := HO2.out.size
    have : W2.drew.heap.size = W2.heap.size := rfl
    rcases hk with e | e | ⟨o, e⟩
    · exact .inl e
    · have h1 := HOB.out
      have e : k = ob := e
      exact .inr (by omega)
    · have e : B = some ⟨k, o, none⟩ := e
      have h1 := HN3.out k (by rw [e]; exact ownB_slice.2 rfl)
      exact .inr (by omega)
def KnRel (w W : World) (t : Value) (wr : World) : Prop := ∃ k : Nat, k ≤ 3 ∧ t = .int .i64 k ∧ ∃ m, w.drewN m = wr
def KNew (blocks : Int) (q : Nat → Int) (l : List HintA) (w : World) (e : Ending) (w' : World) : Prop :=
  ∃ i : PlanI, e = .returned (.tuple #[.pointer (some ⟨i.pb, 0, none⟩), .int .i64 0]) ∧ PlanB w' i blocks q l (alcO l q) ∧ (∀ k, i.F k → w.heap.size ≤ k) ∧ Only Non w w'
theorem karma_new {blocks : Int} {q : Nat → Int} {l : List HintA} {A : Option Addr} {n c : Nat} (w : World) (hin : HintsAt w A n c l) (hP : hintsP blocks l)
    (hb : 1 ≤ blocks ∧ blocks ≤ 32) (hq : ∀ t, t < 3 → 1 ≤ q t ∧ q t ≤ 16) :
    Calls Tryz.prog 156 #[.slice A n c, .int .i64 blocks, .agg (capC q)] w (KNew blocks q l w) := by
  have HIN := Lib.hid hin
  have HP := Lib.hid hP
  have HBL := Lib.hid hb
  have HQ := Lib.hid hq
  have hb1 : ¬ blocks < 1 := by omega
  have hb2 : ¬ 32 < blocks := by omega
  have HB := Lib.hid (Box.fresh w 22 (capC q))
  have HO := Lib.hid ((Only.refl Non w).alloc (.cells (capC q) 22))
  clear hin hP hq hb
  go_enter Tryz.func156, Tryz.ntmps156
  go_upto_region 1 with fail
  change Code.wp _ _ _ _ (w.alloc (.cells (capC q) 22))
  generalize w.alloc (.cells (capC q) 22) = W at *
  obtain ⟨cb, hcb⟩ : ∃ cb, cb = w.heap.size := ⟨_, rfl⟩
  rw [← hcb] at HB ⊢
  clear hcb
  go_upto_region 2 with (refine wpList_load_row rfl 22 _ rfl cb rfl 22 (capC q) (0, 0) _ HB.out Tryz.underlying22 rfl (by kernel_rfl) ?_)
  go_loopw [13] (fun t wr => KnRel W W t wr) (fun t _ => 3 - (intOf t).toNat)
  case atStart => exact ⟨0, by omega, rfl, 0, rfl⟩
  case round =>
    obtain ⟨k, hk, rfl, m, rfl⟩ := hrel
    by_cases hlt : k < 3
    · have hq := HQ.out k hlt
      have hq1 : ¬ q k < 1 := by omega
      have hq2 : ¬ 16 < q k := by omega
      have hki : (k : Int) < 3 := by omega
      have hix := run_index_agg (P := Tryz.prog) (W.drewN m) 22 3 3 (capC q) .i64 k (.int .i64 (q k)) Tryz.underlying22 (by kernel_rfl) (by kernel_rfl) (by omega) hki (by simpa using capC_at q hlt)
      generalize q k = qk at *
      have HLT := Lib.hid hlt
      clear hq hlt hk
      go_wp2_with fail
      go_roundw
      case rel => exact ⟨k + 1, HLT.out, by go_num, m, rfl⟩
      case measure => simp [intOf]; have := HLT.out; omega
    · obtain rfl : k = 3 := by omega
      clear hlt hk
      have HB2 := Lib.hid (HB.out.drewN m)
      have HO2 := Lib.hid (HO.out.drewN m)
      generalize W.drewN m = W2 at *
      go_upto_region 10 with (first | (refine wpList_load_row rfl 22 _ rfl cb rfl 22 (capC q) (0, 0) _ HB2.out Tryz.underlying22 rfl (by kernel_rfl) ?_) | (refine wpList_build' rfl _ _ rfl [(0, .int .i64 blocks), (1, .agg (capC q))] _ (by simp [Act.eval, Act.put]) (built_plan blocks q) ?_))
      have HB3 := Lib.hid (Box.fresh W2 312 (planC0 blocks q (.slice none 0 0) (.slice none 0 0)))
      have HO3 := Lib.hid (HO2.out.alloc (.cells (planC0 blocks q (.slice none 0 0) (.slice none 0 0)) 312))
      change Code.wp _ _ _ _ (W2.alloc (.cells (planC0 blocks q (.slice none 0 0) (.slice none 0 0)) 312))
      generalize W2.alloc (.cells (planC0 blocks q (.slice none 0 0) (.slice none 0 0)) 312) = W3 at *
      obtain ⟨pb, hpb⟩ : ∃ pb, pb = W2.heap.size := ⟨_, rfl⟩
      have HPB := Lib.hid (show w.heap.size ≤ pb by rw [hpb]; exact HO2.out.size)
      rw [← hpb] at HB3 ⊢
      clear hpb
      have HS := Lib.hid (plan_set W3 HB3.out (HIN.out.keep HO3.out) HP.out HBL.out fun t ht => by have := HQ.out t ht; omega)
      go_wp2_with (go_at_call 215; refine HS.out.mono ?_; rintro e W4 ⟨rfl, i, rfl, h1, h2, h3⟩; have H1 := Lib.hid h1; have H2 := Lib.hid h2; have H3 := Lib.hid h3; clear h1 h2 h3)
      go_ret2
      have hs := HO3.out.size
      have hp := HPB.out
      exact ⟨i, rfl, H1.out, fun k hk => (H2.out k hk).elim (fun e => by omega) fun e => by omega, HO3.out.trans' H3.out fun k hk => .inr (by rw [show k = i.pb from hk]; exact hp)⟩
end
end Go.Proofs.YtodephhlhdbeoaaGreat
namespace Go.Proofs.YtodephhlhdbeoaaGreat
set_option linter.unusedVariables false
theorem mem_remS {S : Nat → List Int} (hn : ∀ r, (S r).Nodup) (b y : Int) (r : Nat) : y ∈ remS S b r ↔ y ∈ S r ∧ y ≠ b := by
  unfold remS
  rw [(hn r).mem_erase_iff]
  exact And.comm
theorem mem_frontS (S : Nat → List Int) (i : Nat) (b y : Int) (r : Nat) : y ∈ frontS S i b r ↔ y ∈ S r ∨ (r = i ∧ y = b) := by
  unfold frontS updN
  by_cases e : r = i
  · subst e
    rw [if_pos rfl, List.mem_cons]
    exact ⟨fun h => h.elim (fun e => .inr ⟨rfl, e⟩) .inl, fun h => h.elim .inr fun h => .inl h.2⟩
  · rw [if_neg e]
    exact ⟨.inl, fun h => h.elim id fun h => absurd h.1 e⟩
theorem mem_prtTo (S : Nat → List Int) (y : Int) : ∀ n, y ∈ prtTo S n ↔ ∃ r, r < n ∧ y ∈ S r
  | 0 => by simp [prtTo]
  | n + 1 => by
    rw [prtTo_succ, List.mem_append, mem_prtTo S y n]
    constructor
    · rintro (⟨r, h1, h2⟩ | h)
      · exact ⟨r, by omega, h2⟩
      · exact ⟨n, by omega, h⟩
    · rintro ⟨r, h1, h2⟩
      by_cases e : r = n
      · exact .inr (e ▸ h2)
      · exact .inl ⟨r, by omega, h2⟩
structure PrtI1 (l : List HintA) (O : Nat → Nat → Int) (t : Nat) (S : Nat → List Int) : Prop where
  at_ : ∀ {r : Nat} {b : Int}, b ∈ S r → r = rngI l b ∧ r < l.length ∧ 0 ≤ b ∧ b < 64
  nodup : ∀ r, (S r).Nodup
  most : ∀ r, r < l.length → ((S r).length : Int) ≤ O r t
section
variable {l : List HintA} {O : Nat → Nat → Int} {t : Nat} {S : Nat → List Int}
theorem PrtI1.mem (h : PrtI1 l O t S) (b : Int) : b ∈ prtTo S l.length ↔ b ∈ S (rngI l b) := by
  rw [mem_prtTo]
  constructor
  · rintro ⟨r, _, h2⟩
    rw [← (h.at_ h2).1]; exact h2
  · exact fun h2 => ⟨_, (h.at_ h2).2.1, h2⟩
theorem PrtI1.no (h : PrtI1 l O t S) {b : Int} (hb : b ∉ prtTo S l.length) : ∀ r, b ∉ S r := fun r h2 => by
  rw [h.mem b, ← (h.at_ h2).1] at hb
  exact hb h2
theorem PrtI1.nodupA (h : PrtI1 l O t S) : ∀ n, n ≤ l.length → (prtTo S n).Nodup
  | 0, _ => by simp [prtTo]
  | n + 1, hn => by
    rw [prtTo_succ, List.nodup_append]
    refine ⟨h.nodupA n (by omega), h.nodup n, fun a ha b hb e => ?_⟩
    subst e
    obtain ⟨r, h1, h2⟩ := (mem_prtTo S a n).1 ha
    have e1 := (h.at_ h2).1
    have e2 := (h.at_ hb).1
    omega
theorem PrtI1.rem (h : PrtI1 l O t S) (b : Int) : PrtI1 l O t (remS S b) where
  at_ := fun hy => h.at_ ((mem_remS h.nodup b _ _).1 hy).1
  nodup := fun r => (h.nodup r).erase b
  most := fun r hr => by
    have h1 := h.most r hr
    have h2 : (remS S b r).length ≤ (S r).length := List.length_erase_le
    omega
theorem PrtI1.front (h : PrtI1 l O t S) {b : Int} (h0 : 0 ≤ b) (h1 : b < 64) (hr : rngI l b < l.length) (hb : ∀ r, b ∉ S r) (hl : ((S (rngI l b)).length : Int) < O (rngI l b) t) : PrtI1 l O t (frontS S (rngI l b) b) where
  at_ := fun {r y} hy => by
    rcases (mem_frontS S _ b y r).1 hy with hy | ⟨rfl, rfl⟩
    · exact h.at_ hy
    · exact ⟨rfl, hr, h0, h1⟩
  nodup := fun r => by
    unfold frontS updN
    split
    · rename_i e
      exact List.nodup_cons.2 ⟨hb _, h.nodup _⟩
    · exact h.nodup r
  most := fun r hr2 => by
    unfold frontS updN
    split
    · rename_i e
      subst e
      simp only [List.length_cons]
      omega
    · exact h.most r hr2
def prtAdd (l : List HintA) (O : Nat → Nat → Int) (t : Nat) (S : Nat → List Int) (b : Int) : (Nat → List Int) × Int × Bool :=
  if b ∈ S (rngI l b) then (frontS (remS S b) (rngI l b) b, 0, false)
  else if ((S (rngI l b)).length : Int) < partV l O b t then (frontS (remS S b) (rngI l b) b, 0, false)
  else (frontS (remS (remS S (prtGoes l S (rngI l b) b)) b) (rngI l b) b, prtGoes l S (rngI l b) b, true)
theorem partV_of {b : Int} (h : 0 < partV l O b t) : rngI l b < l.length ∧ partV l O b t = O (rngI l b) t := by
  have h1 := partV_in h
  refine ⟨h1, ?_⟩
  unfold partV
  rw [if_pos h1]
theorem hd_in {L : List Int} (h : L ≠ []) : Go.Proofs.YtodephhlhdbeoaaGreat.hd L ∈ L := by
  cases L with
  | nil => exact absurd rfl h
  | cons a L => exact List.mem_cons_self ..
theorem prtGoes_mem {r : Nat} {b : Int} (h : S r ≠ []) : prtGoes l S r b ∈ S r := by
  unfold prtGoes
  split
  · exact hd_in h
  · exact lst_mem' h
theorem remS_len {b : Int} {r : Nat} (hb : b ∈ S r) : ((remS S b r).length : Int) = (S r).length - 1 := by
  have h1 := List.length_pos_of_mem hb
  unfold remS
  rw [List.length_erase_of_mem hb]
  omega
theorem PrtI1.use (h : PrtI1 l O t S) {b : Int} (hb : b ∈ S (rngI l b)) : PrtI1 l O t (frontS (remS S b) (rngI l b) b) ∧ ∀ y, y ∈ prtTo (frontS (remS S b) (rngI l b) b) l.length ↔ y ∈ prtTo S l.length := by
  have ha := h.at_ hb
  have hI : PrtI1 l O t (frontS (remS S b) (rngI l b) b) := (h.rem b).front ha.2.2.1 ha.2.2.2 ha.2.1 (fun r hr => ((mem_remS h.nodup b b r).1 hr).2 rfl) (by
    have := h.most _ ha.2.1
    rw [remS_len hb]; omega)
  refine ⟨hI, fun y => ?_⟩
  rw [hI.mem, h.mem, mem_frontS, mem_remS h.nodup]
  constructor
  · rintro (⟨h1, _⟩ | ⟨h1, rfl⟩)
    · exact h1
    · exact hb
  · intro h1
    by_cases e : y = b
    · exact .inr ⟨by rw [e], e⟩
    · exact .inl ⟨h1, e⟩
theorem PrtI1.remL (h : PrtI1 l O t S) (b y : Int) : y ∈ prtTo (remS S b) l.length ↔ y ∈ prtTo S l.length ∧ y ≠ b := by
  rw [(h.rem b).mem, h.mem, mem_remS h.nodup]
theorem PrtI1.add (h : PrtI1 l O t S) {b : Int} (h0 : 0 ≤ b) (h1 : b < 64) (hp : 0 < partV l O b t) : PrtI1 l O t (prtAdd l O t S b).1 ∧
    (((prtAdd l O t S b).2.2 = false ∧ (prtAdd l O t S b).2.1 = 0 ∧ ∀ y, y ∈ prtTo (prtAdd l O t S b).1 l.length ↔ y = b ∨ y ∈ prtTo S l.length) ∨
     ((prtAdd l O t S b).2.2 = true ∧ (prtAdd l O t S b).2.1 ∈ prtTo S l.length ∧ b ∉ prtTo S l.length ∧ ∀ y, y ∈ prtTo (prtAdd l O t S b).1 l.length ↔ y = b ∨ (y ∈ prtTo S l.length ∧ y ≠ (prtAdd l O t S b).2.1))) := by
  obtain ⟨hr, hpv⟩ := partV_of hp
  unfold prtAdd
  by_cases hb : b ∈ S (rngI l b)
  · rw [if_pos hb]
    obtain ⟨hI, hm⟩ := h.use hb
    refine ⟨hI, .inl ⟨rfl, rfl, fun y => ?_⟩⟩
    rw [hm y]
    exact ⟨.inr, fun h2 => h2.elim (fun e => by rw [e, h.mem]; exact hb) id⟩
  · rw [if_neg hb]
    have hno : ∀ r, b ∉ S r := h.no (by rw [h.mem]; exact hb)
    by_cases hl : ((S (rngI l b)).length : Int) < partV l O b t
    · rw [if_pos hl]
      rw [hpv] at hl
      rw [rem_no hno]
      have hI := h.front h0 h1 hr hno hl
      refine ⟨hI, .inl ⟨rfl, rfl, fun y => ?_⟩⟩
      rw [hI.mem, h.mem, mem_frontS]
      constructor
      · rintro (h2 | ⟨_, h2⟩)
        · exact .inr h2
        · exact .inl h2
      · rintro (h2 | h2)
        · exact .inr ⟨by rw [h2], h2⟩
        · exact .inl h2
    · rw [if_neg hl]
      have hne : S (rngI l b) ≠ [] := fun e => by rw [e] at hl; simp at hl; omega
      have hv := prtGoes_mem (l := l) (b := b) hne
      generalize hm : prtGoes l S (rngI l b) b = m at *
      have hno2 : ∀ r, b ∉ remS S m r := fun r hr => hno r ((mem_remS h.nodup m b r).1 hr).1
      rw [rem_no hno2]
      have hI := (h.rem m).front h0 h1 hr hno2 (by
        rw [remS_len hv]
        have := h.most _ hr
        omega)
      have hmr := (h.at_ hv).1
      refine ⟨hI, .inr ⟨rfl, by rw [h.mem, ← hmr]; exact hv, by rw [h.mem]; exact hb, fun y => ?_⟩⟩
      rw [hI.mem, h.mem, mem_frontS, mem_remS h.nodup]
      constructor
      · rintro (h2 | ⟨_, h2⟩)
        · exact .inr h2
        · exact .inl h2
      · rintro (h2 | h2)
        · exact .inr ⟨by rw [h2], h2⟩
        · exact .inl h2
end
end Go.Proofs.YtodephhlhdbeoaaGreat
namespace Go.Proofs.YtodephhlhdbeoaaGreat
open Go.RowKit Go.ChangeShapes Go.WideShapes
set_option linter.unusedVariables false
set_option linter.unusedSimpArgs false
def PrtI.G (j : PrtI) (n : Nat) : Nat → Prop := fun k => k = j.p ∨ k = j.g ∨ k = j.eb ∨ k = j.i.pb ∨ k = j.i.ob ∨ (0 < n ∧ ∃ o, j.i.A = some ⟨k, o, none⟩)
structure PrtR (blocks : Int) (q : Nat → Int) (l : List HintA) (O : Nat → Nat → Int) (t : Nat) (j : PrtI) (S : Nat → List Int) (w : World) : Prop where
  b : PrtB w j blocks q l O S
  i : PrtI1 l O t S
  t : j.t = t
  h : 0 < l.length → ∀ k o, j.i.A = some ⟨k, o, none⟩ → k ≠ j.g ∧ k ≠ j.eb
section
variable {w w' : World} {j : PrtI} {blocks : Int} {q : Nat → Int} {l : List HintA} {O : Nat → Nat → Int} {t : Nat} {S S' : Nat → List Int}
theorem PlanB.off {F : Nat → Prop} {i : PlanI} (h : PlanB w i blocks q l O) (ho : Only F w w') (h1 : ¬ F i.pb) (h2 : ¬ F i.ob) (h3 : 0 < l.length → ∀ k o, i.A = some ⟨k, o, none⟩ → ¬ F k) : PlanB w' i blocks q l O :=
  ⟨ho.box h.box h1, h.hin.far ho fun h0 k hk => by
    obtain ⟨g, o, e, _⟩ := h.hin.at_ 0 h0
    rw [e] at hk
    have := ownB_slice.1 hk
    subst this
    exact h3 h0 g o e, ho.box h.prt h2, h.hP, fun h0 k o e => by obtain ⟨cs, hb⟩ := h.ht h0 k o e; exact ⟨cs, ho.box hb (h3 h0 k o e)⟩⟩
theorem PlanB.ltA {i : PlanI} (h : PlanB w i blocks q l O) (h0 : 0 < l.length) : ∀ k o, i.A = some ⟨k, o, none⟩ → k < w.heap.size := fun k o e => by
  obtain ⟨g, o', e', hg, _⟩ := h.hin.at_ 0 h0
  rw [e] at e'; injection e' with e'; injection e' with e1; subst e1
  exact hg
theorem PrtR.only {F : Nat → Prop} (h : PrtR blocks q l O t j S w) (ho : Only F w w') (hF : ∀ k, j.G l.length k → ¬ F k) : PrtR blocks q l O t j S w' :=
  ⟨⟨ho.box h.b.box (hF _ (.inl rfl)), h.b.sp.only ho (hF _ (.inr (.inl rfl))) (hF _ (.inr (.inr (.inl rfl)))), h.b.pl.off ho (hF _ (.inr (.inr (.inr (.inl rfl))))) (hF _ (.inr (.inr (.inr (.inr (.inl rfl)))))) fun h0 k o e => hF k (.inr (.inr (.inr (.inr (.inr ⟨h0, o, e⟩))))), h.b.t3⟩, h.i, h.t, h.h⟩
theorem PrtR.lt (h : PrtR blocks q l O t j S w) : ∀ k, j.G l.length k → k < w.heap.size := fun k hk => by
  rcases hk with rfl | rfl | rfl | rfl | rfl | ⟨h0, o, e⟩
  · exact h.b.box.lt
  · exact h.b.sp.lt1.1
  · exact h.b.sp.lt1.2
  · exact h.b.pl.box.lt
  · exact h.b.pl.prt.lt
  · exact h.b.pl.ltA h0 k o e
theorem PrtR.turn (h : PrtR blocks q l O t j S w) (hs : SpB w' j.g j.eb (l.length + 1) S') (ho : Only (Two j.g j.eb) w w') (hi : PrtI1 l O t S') : PrtR blocks q l O t j S' w' := by
  obtain ⟨N, E, hm, _⟩ := h.b.sp
  have n1 : ¬ Two j.g j.eb j.p := fun e => e.elim (h.b.box.off hm.1 (by decide)) (h.b.box.off hm.2 (by decide))
  have n2 : ¬ Two j.g j.eb j.i.pb := fun e => e.elim (h.b.pl.box.off hm.1 (by decide)) (h.b.pl.box.off hm.2 (by decide))
  have n3 : ¬ Two j.g j.eb j.i.ob := fun e => e.elim (h.b.pl.prt.off hm.1 (by decide)) (h.b.pl.prt.off hm.2 (by decide))
  exact ⟨⟨ho.box h.b.box n1, hs, h.b.pl.off ho n2 n3 fun h0 k o e e2 => e2.elim (h.h h0 k o e).1 (h.h h0 k o e).2, h.b.t3⟩, hi, h.t, h.h⟩
theorem two_G {n : Nat} : ∀ k, Two j.g j.eb k → j.G n k := fun k hk => hk.elim (fun e => .inr (.inl e)) fun e => .inr (.inr (.inl e))
end
def prtSp (l : List HintA) (O : Nat → Nat → Int) (t : Nat) : OSpec (Nat → List Int) :=
  ⟨fun S => prtTo S l.length, fun S b => frontS (remS S b) (rngI l b) b, prtAdd l O t, fun S b => remS S b, fun _ => 0, fun b => 0 < partV l O b t⟩
def prtFn : OFn := ⟨339, 342, 337, 341, 338, 340⟩
theorem prt_disp (p : Nat) : Disp 165 (.pointer (some ⟨p, 0, none⟩)) "Has" prtFn.has ∧ Disp 165 (.pointer (some ⟨p, 0, none⟩)) "Use" prtFn.use ∧ Disp 165 (.pointer (some ⟨p, 0, none⟩)) "Add" prtFn.add ∧
    Disp 165 (.pointer (some ⟨p, 0, none⟩)) "Remove" prtFn.rem ∧ Disp 165 (.pointer (some ⟨p, 0, none⟩)) "All" prtFn.all ∧ Disp 165 (.pointer (some ⟨p, 0, none⟩)) "Len" prtFn.len :=
  ⟨⟨fun w => by kernel_rfl, fun a w => by kernel_rfl⟩, ⟨fun w => by kernel_rfl, fun a w => by kernel_rfl⟩, ⟨fun w => by kernel_rfl, fun a w => by kernel_rfl⟩,
   ⟨fun w => by kernel_rfl, fun a w => by kernel_rfl⟩, ⟨fun w => by kernel_rfl, fun a w => by kernel_rfl⟩, ⟨fun w => by kernel_rfl, fun a w => by kernel_rfl⟩⟩
section
variable {blocks : Int} {q : Nat → Int} {l : List HintA} {O : Nat → Nat → Int} {t : Nat}
theorem prt_ord (j : PrtI) : OrdC (prtSp l O t) 165 (.pointer (some ⟨j.p, 0, none⟩)) prtFn (j.G l.length) (PrtR blocks q l O t j) where
  dhas := (prt_disp j.p).1
  duse := (prt_disp j.p).2.1
  dadd := (prt_disp j.p).2.2.1
  drem := (prt_disp j.p).2.2.2.1
  dall := (prt_disp j.p).2.2.2.2.1
  dlen := (prt_disp j.p).2.2.2.2.2
  ptr := ⟨j.p, rfl, .inl rfl⟩
  only := fun h ho hF => h.only ho hF
  lt := fun h k hk => h.lt k hk
  has := fun {s w} b h => by
    show Calls Tryz.prog 339 _ w fun e w' => e = .returned (.bool (decide (b ∈ prtTo s l.length))) ∧ Only Non w w'
    by_cases hb : b ∈ prtTo s l.length
    · rw [decide_eq_true hb]
      rw [h.i.mem] at hb
      exact (prt_has_in w h.b hb).mono fun e w' ⟨h1, h2⟩ => ⟨h1, h2 ▸ Only.refl _ _⟩
    · rw [decide_eq_false hb]
      exact (prt_has_no w h.b (h.i.no hb)).mono fun e w' ⟨h1, h2⟩ => ⟨h1, h2 ▸ Only.refl _ _⟩
  len := fun h => prt_len _ h.b
  all := fun h => prt_all _ h.b
  use := fun {s w b} h hb _ => by
    have hb : b ∈ prtTo s l.length := hb
    rw [h.i.mem] at hb
    have ha := h.i.at_ hb
    obtain ⟨n, rfl⟩ := Int.eq_ofNat_of_zero_le ha.2.2.1
    exact (prt_use_in w h.b (by omega) (by omega) hb).mono fun e w' ⟨h1, h2, h3⟩ => ⟨h1, h.turn h2 h3 (h.i.use hb).1, h3.mono fun k hk => .inl (two_G k hk)⟩
  add := fun {s w b} h h0 h1 ht _ => by
    obtain ⟨n, rfl⟩ := Int.eq_ofNat_of_zero_le h0
    have ht : 0 < partV l O n t := ht
    have hA := (h.i.add (by omega) h1 ht).1
    have htj : 0 < partV l O n j.t := by rw [h.t]; exact ht
    show Calls Tryz.prog 337 _ w fun e w' => e = .returned (.tuple #[.int .i64 (prtAdd l O t s n).2.1, .bool (prtAdd l O t s n).2.2, .int .i64 0]) ∧ PrtR blocks q l O t j (prtAdd l O t s n).1 w' ∧ Only (j.G l.length) w w'
    unfold prtAdd at hA ⊢
    by_cases hb : (n : Int) ∈ s (rngI l n)
    · rw [if_pos hb] at hA ⊢
      exact (prt_add_in w h.b (by have := (h.i.at_ hb).2.1; omega) (by omega) hb htj).mono fun e w' ⟨h1, h2, h3⟩ => ⟨h1, h.turn h2 h3 hA, h3.mono fun k hk => .inl (two_G k hk)⟩
    · rw [if_neg hb] at hA ⊢
      have hno : ∀ r, (n : Int) ∉ s r := h.i.no (by rw [h.i.mem]; exact hb)
      by_cases hl : ((s (rngI l n)).length : Int) < partV l O n t
      · rw [if_pos hl] at hA ⊢
        exact (prt_add_room w h.b (by omega) hno htj (by rw [h.t]; exact hl)).mono fun e w' ⟨h1, h2, h3⟩ => ⟨h1, h.turn h2 h3 hA, h3.mono fun k hk => .inl (two_G k hk)⟩
      · rw [if_neg hl] at hA ⊢
        have hne : s (rngI l n) ≠ [] := fun e => by rw [e] at hl; simp at hl; omega
        have hv := prtGoes_mem (l := l) (b := (n : Int)) hne
        obtain ⟨m, hm⟩ := Int.eq_ofNat_of_zero_le (h.i.at_ hv).2.2.1
        have hm' : prtGoes l s (rngI l n) n = (m : Int) := hm
        rw [hm'] at hA hv ⊢
        exact (prt_add_full w h.b (by omega) hno htj (by rw [h.t]; omega) hm' hv).mono fun e w' ⟨h1, h2, h3⟩ => ⟨h1, h.turn h2 h3 hA, h3.mono fun k hk => .inl (two_G k hk)⟩
  rem := fun {s w b} h hb => by
    have hb : b ∈ prtTo s l.length := hb
    rw [h.i.mem] at hb
    have ha := h.i.at_ hb
    obtain ⟨n, rfl⟩ := Int.eq_ofNat_of_zero_le ha.2.2.1
    exact (prt_rem_in w h.b hb).mono fun e w' ⟨h1, h2, h3⟩ => ⟨h1, h.turn h2 h3 (h.i.rem _), h3.mono fun k hk => .inl (two_G k hk)⟩
  rng := fun {s w b} h hb => by
    have hb : b ∈ prtTo s l.length := hb
    rw [h.i.mem] at hb
    exact (h.i.at_ hb).2.2
  nodup := fun h => h.i.nodupA _ (Nat.le_refl _)
  addL := fun h h0 h1 ht => (h.i.add h0 h1 ht).2
  useL := fun {s w b} h hb => by
    have hb : b ∈ prtTo s l.length := hb
    rw [h.i.mem] at hb
    exact (h.i.use hb).2
  remL := fun {s w b} h hb y => h.i.remL b y
  ageU := fun _ _ => Nat.le_succ _
  ageA := fun _ _ => Nat.le_succ _
  ageR := fun _ _ => Nat.le_refl _
theorem prtTo_nil : ∀ n, prtTo (fun _ => []) n = []
  | 0 => rfl
  | n + 1 => by rw [prtTo_succ, prtTo_nil n]; rfl
def partK (blocks : Int) (q : Nat → Int) (l : List HintA) (O : Nat → Nat → Int) (t : Nat) : OKind :=
  ⟨Nat → List Int, PrtI, prtSp l O t, 165, prtFn, fun j => .pointer (some ⟨j.p, 0, none⟩), fun j => j.G l.length, fun j => PrtR blocks q l O t j, fun _ => [], fun j => prt_ord j, prtTo_nil _⟩
end
def capQ (c : CfgA) : Nat → Int := fun t => c.f (9 + t)
def partKc (c : CfgA) (k : Nat) : OKind := partK (c.f 2) (capQ c) c.h (alcO c.h (capQ c)) k
theorem alTier_o (i : Nat) (s : AlS) (t r x : Nat) : (alTier i s t).o r x = if r = i ∧ x = t then min s.left (s.c t) else s.o r x := rfl
def colS (o : Nat → Nat → Int) (x : Nat) : Nat → Int
  | 0 => 0
  | n + 1 => colS o x n + o n x
theorem colS_set (o : Nat → Nat → Int) (x i : Nat) (v : Int) (hz : o i x = 0) : ∀ n, colS (fun r y => if r = i ∧ y = x then v else o r y) x n = colS o x n + if i < n then v else 0
  | 0 => by simp [colS]
  | n + 1 => by
    unfold colS
    rw [colS_set o x i v hz n]
    by_cases e : n = i
    · subst e
      have h1 : (if n = n ∧ x = x then v else o n x) = v := if_pos ⟨rfl, rfl⟩
      have h2 : (if n < n then v else 0) = 0 := if_neg (by omega)
      have h3 : (if n < n + 1 then v else 0) = v := if_pos (by omega)
      rw [h1, h2, h3]
      omega
    · have h1 : (if n = i ∧ x = x then v else o n x) = o n x := if_neg (fun h => e h.1)
      rw [h1]
      by_cases h2 : i < n
      · rw [if_pos h2, if_pos (by omega)]; omega
      · rw [if_neg h2, if_neg (by omega)]; omega
theorem colS_other (o o' : Nat → Nat → Int) (x : Nat) (h : ∀ r, o r x = o' r x) : ∀ n, colS o x n = colS o' x n
  | 0 => rfl
  | n + 1 => by unfold colS; rw [colS_other o o' x h n, h n]
structure AlB (q : Nat → Int) (n : Nat) (D : Nat → Prop) (s : AlS) : Prop where
  o0 : ∀ r x, 0 ≤ s.o r x
  c0 : ∀ x, x < 3 → 0 ≤ s.c x
  sum : ∀ x, x < 3 → colS s.o x n + s.c x = q x
  no : ∀ r x, ¬ D r → s.o r x = 0
theorem alMid_sum {q : Nat → Int} {n : Nat} {D : Nat → Prop} {l : List HintA} {s : AlS} {i : Nat} (h : AlB q n D s) (hi : ¬ D i) (hin : i < n) (hl : 0 ≤ (l.getD i default).size) :
    ∀ k, k ≤ 3 → 0 ≤ (alMid l s i k).left ∧ AlB q n (fun r => D r ∨ r = i) (alMid l s i k) ∧ ∀ x, k ≤ x → (alMid l s i k).o i x = 0
  | 0, _ => ⟨hl, ⟨h.o0, h.c0, h.sum, fun r x hr => h.no r x fun e => hr (.inl e)⟩, fun x _ => h.no i x hi⟩
  | k + 1, hk => by
    obtain ⟨h1, h2, h3⟩ := alMid_sum h hi hin hl k (by omega)
    rw [alMid_succ]
    generalize alMid l s i k = m at *
    have hc := h2.c0 k (by omega)
    refine ⟨by unfold alTier; dsimp only; omega, ⟨fun r x => ?_, fun x hx => ?_, fun x hx => ?_, fun r x hr => ?_⟩, fun x hx => ?_⟩
    · rw [alTier_o]; split
      · omega
      · exact h2.o0 r x
    · unfold alTier; dsimp only; split
      · omega
      · exact h2.c0 x hx
    · have hs := h2.sum x hx
      by_cases e : x = k
      · subst e
        have e1 : colS (alTier i m x).o x n = colS m.o x n + min m.left (m.c x) := by
          have := colS_set m.o x i (min m.left (m.c x)) (h3 x (Nat.le_refl _)) n
          rw [if_pos hin] at this
          exact this
        rw [e1]
        unfold alTier; dsimp only
        rw [if_pos rfl]
        omega
      · rw [colS_other (alTier i m k).o m.o x (fun r => by rw [alTier_o, if_neg (fun h => e h.2)])]
        unfold alTier; dsimp only
        rw [if_neg e]
        exact hs
    · rw [alTier_o, if_neg (fun e => hr (.inr e.1))]
      exact h2.no r x hr
    · rw [alTier_o, if_neg (fun e => by omega)]
      exact h3 x (by omega)
theorem alRange_sum {q : Nat → Int} {n : Nat} {D : Nat → Prop} {l : List HintA} {s : AlS} {i : Nat} (h : AlB q n D s) (hi : ¬ D i) (hin : i < n) (hl : 0 ≤ (l.getD i default).size) : AlB q n (fun r => D r ∨ r = i) (alRange l s i) := by
  obtain ⟨h1, h2, h3⟩ := alMid_sum (l := l) h hi hin hl 3 (Nat.le_refl _)
  rw [alRange_eq]
  generalize alMid l s i 3 = m at *
  refine ⟨fun r x => ?_, h2.c0, fun x hx => ?_, fun r x hr => ?_⟩
  · dsimp only; split
    · exact h1
    · exact h2.o0 r x
  · have := h2.sum x hx
    rw [colS_other _ m.o x (fun r => by dsimp only; rw [if_neg (fun h => by omega)])]
    exact this
  · dsimp only
    rw [if_neg (fun e => hr (.inr e.1))]
    exact h2.no r x hr
theorem alFold_sum {q : Nat → Int} {n : Nat} {l : List HintA} (hl : ∀ i, i < n → 0 ≤ (l.getD i default).size) : ∀ (ord : List Nat) {D : Nat → Prop} {s : AlS}, AlB q n D s → ord.Nodup → (∀ x ∈ ord, ¬ D x ∧ x < n) → ∃ D', AlB q n D' (ord.foldl (alRange l) s)
  | [], D, s, h, _, _ => ⟨D, h⟩
  | i :: ord, D, s, h, hn, ho => by
    have h1 := ho i (List.mem_cons_self ..)
    rw [List.nodup_cons] at hn
    refine alFold_sum hl ord (alRange_sum h h1.1 h1.2 (hl i h1.2)) hn.2 fun x hx => ⟨fun e => e.elim (ho x (List.mem_cons_of_mem _ hx)).1 fun e => hn.1 (e ▸ hx), (ho x (List.mem_cons_of_mem _ hx)).2⟩
theorem colS_zero (x : Nat) : ∀ n, colS (fun _ _ => 0) x n = 0
  | 0 => rfl
  | n + 1 => by unfold colS; rw [colS_zero x n]; rfl
theorem alc_sum {blocks : Int} {l : List HintA} (hP : hintsP blocks l) {q : Nat → Int} (hq : ∀ x, x < 3 → 0 ≤ q x) (hn : (frcOrd (hintFr l)).Nodup) : (∀ r x, 0 ≤ alcO l q r x) ∧ ∀ x, x < 3 → colS (alcO l q) x l.length ≤ q x := by
  obtain ⟨D, h⟩ := alFold_sum (q := q) (n := l.length) (l := l) (fun i hi => by have := hP.1 i hi; unfold okH at this; omega) (frcOrd (hintFr l)) (D := fun _ => False) (s := ⟨q, fun _ _ => 0, 0⟩)
    ⟨fun _ _ => Int.le_refl _, hq, fun x hx => by show colS (fun _ _ => 0) x l.length + q x = q x; rw [colS_zero]; omega, fun _ _ _ => rfl⟩ hn fun x hx => ⟨id, by have := frcOrd_lt (hintFr l) x hx; rwa [hintFr_len] at this⟩
  exact ⟨h.o0, fun x hx => by have h1 := h.sum x hx; have h2 := h.c0 x hx; unfold alcO alcOf; omega⟩
section
set_option maxHeartbeats 4000000
set_option maxRecDepth 100000
theorem prt_zero {l : List HintA} {O : Nat → Nat → Int} {t : Nat} (h : ∀ r, r < l.length → 0 ≤ O r t) : PrtI1 l O t (fun _ => []) :=
  ⟨fun h => (by cases h), fun _ => List.nodup_nil, fun r hr => (by have := h r hr; simpa using this)⟩
theorem part_made {c : CfgA} {k : Nat} (hP : CfgP c) (hk : k < 3) (hp : c.f 5 = 2) (hO : ∀ r, r < c.h.length → 0 ≤ alcO c.h (capQ c) r k) : (partKc c k).Made c (k + 1) := by
  intro w A n cp hin
  have HN := Lib.hid (fun w (h : HintsAt w A n cp c.h) => karma_new (q := capQ c) w h hP.hs hP.p2 fun t ht => hP.pc t ht)
  have HPN := Lib.hid (fun w i (h : PlanB w i (c.f 2) (capQ c) c.h (alcO c.h (capQ c))) => prt_new (t := k) w h hk)
  have HC := Lib.hid (fun (W : World) (bb : Nat) (hb : Box W bb 25 (cfgCells c (.slice A n cp))) (i : Nat) (hi : i < 16) => hb.cellAt (cfgCells_at c (.slice A n cp) hi))
  have HH := Lib.hid (fun (W : World) (bb : Nat) (hb : Box W bb 25 (cfgCells c (.slice A n cp))) => hb.cellAt (cfgCells_hs c (.slice A n cp)))
  have HIN := Lib.hid hin
  have HOO := Lib.hid hO
  have hw : IntKind.i64.wrap (((k + 1 : Nat) : Int) - 1) = k := by rw [IntKind.wrap_i64]; omega
  have hk3 : (k : Int) < 3 := by omega
  have HPP := Lib.hid hp
  show Calls Tryz.prog 85 #[.agg (cfgCells c (.slice A n cp)), .int .i64 ((k + 1 : Nat) : Int)] w (OPost (partKc c k) w)
  clear hin hO hp
  go_enter Tryz.func85, Tryz.ntmps85
  go_upto_region 1 with fail
  have HB := Lib.hid (Box.fresh w 25 (cfgCells c (.slice A n cp)))
  have HO := Lib.hid ((Only.refl Non w).alloc (.cells (cfgCells c (.slice A n cp)) 25))
  change Code.wp _ _ _ _ (w.alloc (.cells (cfgCells c (.slice A n cp)) 25))
  generalize w.alloc (.cells (cfgCells c (.slice A n cp)) 25) = W1 at *
  generalize w.heap.size = bb at *
  have c5 := HC.out W1 bb HB.out 5 (by decide)
  rw [HPP.out] at c5
  have c2 := HC.out W1 bb HB.out 2 (by decide)
  have ck := HC.out W1 bb HB.out (9 + k) (by omega)
  have c9 := HC.out W1 bb HB.out 9 (by decide)
  have c10 := HC.out W1 bb HB.out 10 (by decide)
  have c11 := HC.out W1 bb HB.out 11 (by decide)
  have c16 := HH.out W1 bb HB.out
  have HN1 : Hid (Calls Tryz.prog 156 #[.slice A n cp, .int .i64 (c.f 2), .agg #[.int .i64 (c.f 9), .int .i64 (c.f 10), .int .i64 (c.f 11)]] W1 (KNew (c.f 2) (capQ c) c.h W1)) := Lib.hid (HN.out W1 (HIN.out.keep HO.out))
  clear HC HH HN HPP
  go_upto_region 4 with (go_at_call 156; refine HN1.out.mono ?_; rintro e W2 ⟨i, rfl, h1, h2, h3⟩; have H1 := Lib.hid h1; have H2 := Lib.hid h2; have H3 := Lib.hid h3; clear h1 h2 h3)
  clear c5 c2 ck c9 c10 c11 c16 HN1
  have HPN1 := Lib.hid (HPN.out W2 i H1.out)
  clear HPN
  go_wp2_with (go_at_call 157; refine HPN1.out.mono ?_; rintro e W3 ⟨p, g, eb, rfl, h1, h2, h3, h4, h5⟩; have G1 := Lib.hid h1; have G2 := Lib.hid h2; have G3 := Lib.hid h3; have G4 := Lib.hid h4; have G5 := Lib.hid h5; clear h1 h2 h3 h4 h5)
  go_ret
  have hs1 := HO.out.size
  have hs2 := H3.out.size
  refine ⟨⟨p, g, eb, i, k⟩, rfl, ⟨G1.out, prt_zero HOO.out, rfl, fun h0 kk o e => ?_⟩, fun j hj => ?_, (HO.out.trans H3.out).trans G5.out⟩
  · have h1 := H1.out.ltA h0 kk o e
    have h2 := G3.out
    have h3 := G4.out
    show kk ≠ g ∧ kk ≠ eb
    omega
  · have h2 := G2.out
    have h3 := G3.out
    have h4 := G4.out
    rcases hj with rfl | rfl | rfl | rfl | rfl | ⟨h0, o, e⟩
    · omega
    · omega
    · omega
    · have := H2.out i.pb (.inl rfl); show w.heap.size ≤ i.pb; omega
    · have := H2.out i.ob (.inr (.inl rfl)); show w.heap.size ≤ i.ob; omega
    · have := H2.out j (.inr (.inr ⟨o, e⟩)); omega
end
end Go.Proofs.YtodephhlhdbeoaaGreat
