/- store.Open where the journal is empty; store.Read. Printed by ste.py. -/
import Derived.Test.YtcphifphidcbaaaGreatStd
import Derived.Test.YtcphifphidcbaaaGreatCnw
namespace Go.Proofs.YtcphifphidcbaaaGreat
open Go.RowKit Go.ChangeShapes Go.WideShapes
set_option linter.unusedVariables false
set_option linter.unusedSimpArgs false
theorem built_sto (sh : Nat → Int) (db : Nat) : Tryz.prog.built 161 [(0, .agg (shC sh)), (1, .pointer (some ⟨db, 0, none⟩))] = some (stoC sh db) := by kernel_rfl
theorem blkOf_len (size : Nat) (b : List Int) : (blkOf size b).2.length = size := by
  unfold blkOf
  split
  · rename_i h
    have h := h.1
    unfold sTxt at h ⊢
    split at h
    · split at h
      · simp only [Bool.and_eq_true, beq_iff_eq] at h
        rw [if_pos (by assumption)]
        rename_i hq
        first | (show List.length _ = size; simp only; omega) | (rw [hq]; simp only; omega)
      · cases h
    · cases h
  · simp
section
set_option maxHeartbeats 4000000
set_option maxRecDepth 100000
variable {w : World} {sb db lb : Nat} {V : Nat → Value} {sh : Nat → Int} {d : DskS}
theorem sto_open0 (hp : ShP sh) (h : DskB w db lb V d) (f0 : -1 ≤ d.fuse) (f1 : d.fuse ≤ 9223372036854775807) (hb : ∀ i, IsB (d.sec i)) (he : d.sec 0 = []) :
    Calls Tryz.prog 54 #[.pointer (some ⟨db, 0, none⟩), .agg (shC sh)] w fun e w' => ∃ sb, e = .returned (.tuple #[.pointer (some ⟨sb, 0, none⟩), .int .i64 0]) ∧ StoB w' sb db lb V sh d ∧ w.heap.size ≤ sb ∧ Only Non w w' := by
  have HD := Lib.hid h
  have HP := Lib.hid hp
  have HF := Lib.hid (show (-1 ≤ d.fuse ∧ d.fuse ≤ 9223372036854775807) ∧ (∀ i, IsB (d.sec i)) ∧ d.sec 0 = [] from ⟨⟨f0, f1⟩, hb, he⟩)
  have hm := hp.mul (c := 0) (Int.le_refl _) (by have := hp.c0; omega)
  have h64 : 1 + sh 0 + sh 2 * sh 3 ≤ 64 := by have := hp.b1; omega
  have HR := Lib.hid (fun w => shp_right hp w)
  have HSE := Lib.hid (fun w => shp_sectors hp w)
  clear h hp f0 f1 hb he hm
  go_enter Tryz.func54, Tryz.ntmps54
  go_upto_region 3 with fail
  have al1 := (Only.refl Non w).alloc (.cells (shC sh) 101)
  have HP1 := Lib.hid (Box.fresh w 101 (shC sh))
  have HO1 := Lib.hid al1
  have HD1 := Lib.hid (HD.out.keep al1)
  change Code.wp _ _ _ _ (w.alloc (.cells (shC sh) 101))
  clear al1
  generalize w.alloc (.cells (shC sh) 101) = W1 at *
  obtain ⟨pb, hpb⟩ : ∃ pb, pb = w.heap.size := ⟨_, rfl⟩
  rw [← hpb] at HP1 ⊢
  have HPB := Lib.hid hpb
  clear hpb
  refine wp_region_tail (S := (fun w' : World => Box w' pb 101 (shC sh) ∧ DskB w' db lb V d ∧ Only Non w w')) 10 (by kernel_rfl) (by kernel_rfl) ?_ ?_
  · first | exact hS5 | exact hS3 | exact hSS | exact ⟨HP1.out.drew, HD1.out.keep ((Only.refl Non _).drew), HO1.out.drew⟩
  intro hSS
  refine wpHd_take (i := 0) (v := .agg (shC sh)) (by kernel_rfl) rfl (by kernel_rfl) (fun _ _ _ h => h) (yieldsIf_load_mid (by rfl) 101 _ rfl pb 0 rfl (shC sh).toList _ (fun w hw j v hj => by rw [Nat.zero_add]; exact hw.1.cellAt (by rw [← Array.getElem?_toList]; exact hj)) Tryz.underlying101 rfl (by kernel_rfl)) (by assumption) ?_
  try simp only [Act.put, List.getElem_toArray, List.getElem_cons_succ, List.getElem_cons_zero, List.setIfInBounds_toArray, List.set_cons_zero, List.set_cons_succ]
  refine wpHd_one (i := 1) rfl (by kernel_rfl) (fun K hK => ?_)
  go_simp
  refine (HR.out _).mono ?_
  rintro e W3 ⟨rfl, ho3⟩
  have hS3 : Box W3 pb 101 (shC sh) ∧ DskB W3 db lb V d ∧ Only Non w W3 := ⟨ho3.box hSS.1 id, hSS.2.1.keep ho3, hSS.2.2.trans ho3⟩
  clear ho3
  refine hK.out _ _ ?_ (fun hSS => ?_)
  · first | exact hS5 | exact hS3 | exact hSS | exact ⟨HP1.out.drew, HD1.out.keep ((Only.refl Non _).drew), HO1.out.drew⟩
  clear hK
  try simp only [Act.put, List.getElem_toArray, List.getElem_cons_succ, List.getElem_cons_zero, List.setIfInBounds_toArray, List.set_cons_zero, List.set_cons_succ]
  refine wpHd_take (i := 2) (v := ?_) (by kernel_rfl) rfl (by kernel_rfl) (fun _ _ _ h => h) (Or.inl ⟨by rfl, ?_⟩) (by assumption) ?_
  rotate_left
  · intro w hSw; (try dsimp only at hSw); go_simp; (try with_reducible rfl)
  try simp only [Act.put, List.getElem_toArray, List.getElem_cons_succ, List.getElem_cons_zero, List.setIfInBounds_toArray, List.set_cons_zero, List.set_cons_succ]
  refine wpHd_take (i := 3) (v := ?_) (by kernel_rfl) rfl (by kernel_rfl) (fun _ _ _ h => h) (Or.inl ⟨by rfl, ?_⟩) (by assumption) ?_
  rotate_left
  · intro w hSw; (try dsimp only at hSw); go_simp; (try with_reducible rfl)
  try simp only [Act.put, List.getElem_toArray, List.getElem_cons_succ, List.getElem_cons_zero, List.setIfInBounds_toArray, List.set_cons_zero, List.set_cons_succ]
  refine wpHd_take (i := 4) (v := ?_) (by kernel_rfl) rfl (by kernel_rfl) (fun _ _ _ h => h) (Or.inl ⟨by rfl, ?_⟩) (by assumption) ?_
  rotate_left
  · intro w hSw; (try dsimp only at hSw); go_simp; (try with_reducible rfl)
  try simp only [Act.put, List.getElem_toArray, List.getElem_cons_succ, List.getElem_cons_zero, List.setIfInBounds_toArray, List.set_cons_zero, List.set_cons_succ]
  refine wpHd_take (i := 6) (v := .agg (shC sh)) (by kernel_rfl) rfl (by kernel_rfl) (fun _ _ _ h => h) (yieldsIf_load_mid (by rfl) 101 _ rfl pb 0 rfl (shC sh).toList _ (fun w hw j v hj => by rw [Nat.zero_add]; exact hw.1.cellAt (by rw [← Array.getElem?_toList]; exact hj)) Tryz.underlying101 rfl (by kernel_rfl)) (by assumption) ?_
  try simp only [Act.put, List.getElem_toArray, List.getElem_cons_succ, List.getElem_cons_zero, List.setIfInBounds_toArray, List.set_cons_zero, List.set_cons_succ]
  refine wpHd_one (i := 5) rfl (by kernel_rfl) (fun K hK => ?_)
  go_simp
  refine (sec_len hSS.2.1).mono ?_
  rintro e W4 ⟨rfl, rfl⟩
  refine hK.out _ _ ?_ (fun hSS => ?_)
  · first | exact hS5 | exact hS3 | exact hSS | exact ⟨HP1.out.drew, HD1.out.keep ((Only.refl Non _).drew), HO1.out.drew⟩
  clear hK
  try simp only [Act.put, List.getElem_toArray, List.getElem_cons_succ, List.getElem_cons_zero, List.setIfInBounds_toArray, List.set_cons_zero, List.set_cons_succ]
  refine wpHd_one (i := 7) rfl (by kernel_rfl) (fun K hK => ?_)
  go_simp
  refine (HSE.out _).mono ?_
  rintro e W5 ⟨rfl, ho5⟩
  have hS5 : Box W5 pb 101 (shC sh) ∧ DskB W5 db lb V d ∧ Only Non w W5 := ⟨ho5.box hSS.1 id, hSS.2.1.keep ho5, hSS.2.2.trans ho5⟩
  clear ho5
  refine hK.out _ _ ?_ (fun hSS => ?_)
  · first | exact hS5 | exact hS3 | exact hSS | exact ⟨HP1.out.drew, HD1.out.keep ((Only.refl Non _).drew), HO1.out.drew⟩
  clear hK
  try simp only [Act.put, List.getElem_toArray, List.getElem_cons_succ, List.getElem_cons_zero, List.setIfInBounds_toArray, List.set_cons_zero, List.set_cons_succ]
  refine wpHd_take (i := 8) (v := ?_) (by kernel_rfl) rfl (by kernel_rfl) (fun _ _ _ h => h) (Or.inl ⟨by rfl, ?_⟩) (by assumption) ?_
  rotate_left
  · intro w hSw; (try dsimp only at hSw); go_simp; (try with_reducible rfl)
  try simp only [Act.put, List.getElem_toArray, List.getElem_cons_succ, List.getElem_cons_zero, List.setIfInBounds_toArray, List.set_cons_zero, List.set_cons_succ]
  refine wpHd_take (i := 9) (v := ?_) (by kernel_rfl) rfl (by kernel_rfl) (fun _ _ _ h => h) (Or.inl ⟨by rfl, ?_⟩) (by assumption) ?_
  rotate_left
  · intro w hSw; (try dsimp only at hSw); go_simp; (try with_reducible rfl)
  try simp only [Act.put, List.getElem_toArray, List.getElem_cons_succ, List.getElem_cons_zero, List.setIfInBounds_toArray, List.set_cons_zero, List.set_cons_succ]
  refine wpHd_end (by kernel_rfl) ?_
  have HS := Lib.hid hSS
  clear hSS hS3 hS5
  go_upto_region 6 with (first | (refine wpList_load_row rfl 101 _ rfl pb rfl 101 (shC sh) (0, 0) _ HS.out.1 Tryz.underlying101 rfl (by kernel_rfl) ?_) | (refine wpList_build' rfl _ _ rfl [(0, .agg (shC sh)), (1, .pointer (some ⟨db, 0, none⟩))] _ (by simp [Act.eval]) (built_sto sh db) ?_))
  have al6 := (Only.refl Non W5).alloc (.cells (stoC sh db) 161)
  have HB6 := Lib.hid (Box.fresh W5 161 (stoC sh db))
  have HO6 := Lib.hid (HS.out.2.2.trans al6)
  have HD6 := Lib.hid (HS.out.2.1.keep al6)
  have HL6 := Lib.hid (show ∀ k, dskBlk db lb V k → k < W5.heap.size from fun k hk => HS.out.2.1.lt hk)
  have HZ6 := Lib.hid (show w.heap.size ≤ W5.heap.size from HS.out.2.2.size)
  change Code.wp _ _ _ _ (W5.alloc (.cells (stoC sh db) 161))
  clear al6 HS
  generalize W5.alloc (.cells (stoC sh db) 161) = W6 at *
  generalize W5.heap.size = sb at *
  have hst : StoB W6 sb db lb V sh d :=
    { box := HB6.out, dsk := HD6.out, off := fun hk => by have := HL6.out _ hk; omega, shp := HP.out, f0 := HF.out.1.1, f1 := HF.out.1.2, isb := HF.out.2.1 }
  have HST := Lib.hid hst
  have HJ := Lib.hid (sto_journal0 HF.out.2.2 hst)
  clear hst HB6 HD6 h64
  unfold zWr at HJ
  go_wp2_with (go_at_call 92; refine HJ.out.mono ?_; rintro e W7 ⟨rfl, ho7⟩)
  go_ret2
  exact ⟨sb, rfl, (HST.out.keep ho7).keep ((Only.refl Non W7).alloc _), HZ6.out, (HO6.out.trans ho7).alloc _⟩
theorem sto_Read {b size : Nat} (hb : (b : Int) < sh 0) (hsz : sh 1 = size) (h : StoB w sb db lb V sh d) :
    Calls Tryz.prog 53 #[.pointer (some ⟨sb, 0, none⟩), .int .i64 b] w fun e w' => ∃ v, e = .returned (.tuple #[v, .int .i64 (blkOf size (d.sec (1 + b))).1, .int .i64 0]) ∧ Row 5 w' v (bytes (blkOf size (d.sec (1 + b))).2) ∧ Only Non w w' ∧ ∀ k, ownB v k → w.heap.size ≤ k := by
  have HB := Lib.hid (sto_block hb hsz h)
  have HL := Lib.hid (blkOf_len size (d.sec (1 + b)))
  have x0 := (sto_shape h).1
  generalize (blkOf size (d.sec (1 + b))).1 = n1 at *
  generalize (blkOf size (d.sec (1 + b))).2 = t1 at *
  have HLE := Lib.hid (show size ≤ 16 from by have := h.shp.s1; omega)
  generalize sh 0 = s0 at *
  have hb0 : (0 : Int) ≤ b := by omega
  clear h hsz
  go_enter Tryz.func53, Tryz.ntmps53
  go_upto_region 6 with (go_at_call 88; refine HB.out.mono ?_; rintro e W1 ⟨v, rfl, hr1, ho1, hk1⟩)
  have HCL := Lib.hid (clone_any v t1 W1 (hr1.byt (by have h1 := HL.out; have h2 := HLE.out; omega)))
  have HO1 := Lib.hid ho1
  clear hr1 ho1 hk1 HB
  go_wp2_with (go_at_call 40; refine HCL.out.mono ?_; rintro e W2 ⟨u, rfl, hr2, ho2, hk2⟩)
  go_ret3
  exact ⟨u, rfl, hr2, HO1.out.trans ho2, fun k hk => Nat.le_trans HO1.out.size (hk2 k hk)⟩
theorem sto_Read_no {b : Int} (hb : ¬ (0 ≤ b ∧ b < sh 0)) (h : StoB w sb db lb V sh d) :
    Calls Tryz.prog 53 #[.pointer (some ⟨sb, 0, none⟩), .int .i64 b] w fun e w' => e = .returned (.tuple #[.slice none 0 0, .int .i64 0, .int .i64 9]) ∧ w = w' := by
  have x0 := (sto_shape h).1
  generalize sh 0 = s0 at *
  clear h
  by_cases h0 : 0 ≤ b
  · have h1 : ¬ b < s0 := fun h => hb ⟨h0, h⟩
    have h2 : ¬ b < 0 := by omega
    have h3 : s0 ≤ b := by omega
    clear hb
    go_enter Tryz.func53, Tryz.ntmps53
    go_wp2_with fail
    go_ret3
    exact ⟨rfl, rfl⟩
  · have h2 : b < 0 := by omega
    clear hb
    go_enter Tryz.func53, Tryz.ntmps53
    go_wp2_with fail
    go_ret3
    exact ⟨rfl, rfl⟩
end
end Go.Proofs.YtcphifphidcbaaaGreat
