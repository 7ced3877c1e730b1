/- A store in memory; block. Printed by stb.py. -/
import Derived.Test.YtcphifphidcbaaaGreatSta
namespace Go.Proofs.YtcphifphidcbaaaGreat
open Go.RowKit Go.ChangeShapes Go.WideShapes
set_option linter.unusedVariables false
set_option linter.unusedSimpArgs false
/-- a store over a disk -/
structure StoB (w : World) (sb db lb : Nat) (V : Nat → Value) (sh : Nat → Int) (d : DskS) : Prop where
  box : Box w sb 161 (stoC sh db)
  dsk : DskB w db lb V d
  off : ¬ dskBlk db lb V sb
  shp : ShP sh
  f0 : -1 ≤ d.fuse
  f1 : d.fuse ≤ 9223372036854775807
  isb : ∀ i, IsB (d.sec i)
theorem StoB.only {S : Nat → Prop} {w w' : World} {sb db lb : Nat} {V : Nat → Value} {sh : Nat → Int} {d : DskS} (h : StoB w sb db lb V sh d) (ho : Only S w w') (hS : ∀ k, k = sb ∨ dskBlk db lb V k → ¬ S k) : StoB w' sb db lb V sh d :=
  { box := ho.box h.box (hS _ (.inl rfl)), dsk := h.dsk.only ho fun k hk => hS k (.inr hk), off := h.off, shp := h.shp, f0 := h.f0, f1 := h.f1, isb := h.isb }
theorem StoB.keep {w w' : World} {sb db lb : Nat} {V : Nat → Value} {sh : Nat → Int} {d : DskS} (h : StoB w sb db lb V sh d) (ho : Only Non w w') : StoB w' sb db lb V sh d := h.only ho fun _ _ => id
theorem StoB.lt {w : World} {sb db lb : Nat} {V : Nat → Value} {sh : Nat → Int} {d : DskS} (h : StoB w sb db lb V sh d) {k : Nat} (hk : k = sb ∨ dskBlk db lb V k) : k < w.heap.size := by
  rcases hk with rfl | hk
  · exact h.box.lt
  · exact h.dsk.lt hk
/-- a block's version and bytes, as its sector tells -/
def blkOf (size : Nat) (b : List Int) : Nat × List Int :=
  if (sTxt size b (sNum b 0 true).2.1 (sNum b 0 true).2.2).2 = true ∧ (sNum b 0 true).1 ≤ 1000 then ((sNum b 0 true).1, (sTxt size b (sNum b 0 true).2.1 (sNum b 0 true).2.2).1) else (0, List.replicate size 0)
theorem made_bytes (w : World) (n : Nat) (hn : n ≤ 1000) : Row 5 (w.alloc (.cells (madeCells #[.int .u8 0] n) 5)) (.slice (some ⟨w.heap.size, 0, none⟩) n n) (bytes (List.replicate n 0)) := by
  have e : (bytes (List.replicate n 0)) = List.replicate n (Value.int .u8 0) := by simp [bytes]
  rw [e]
  refine .inr ⟨w.heap.size, n, _, by rw [List.length_replicate], Box.fresh w _ _, by rw [List.length_replicate]; exact Nat.le_refl _, by rw [size_madeCells]; exact Nat.le_refl _, by unfold maxLen; omega, ?_⟩
  rw [toList_madeCells_one, List.length_replicate]
  exact List.take_of_length_le (by simp)
/-- bytes of the call's own, and a number -/
def BlPost (n : Nat) (t : List Int) (w : World) (e : Ending) (w' : World) : Prop := ∃ v, e = .returned (.tuple #[.int .i64 n, v]) ∧ Row 5 w' v (bytes t) ∧ Only Non w w' ∧ ∀ k, ownB v k → w.heap.size ≤ k
section
set_option maxHeartbeats 4000000
set_option maxRecDepth 100000
variable {w : World} {sb db lb : Nat} {V : Nat → Value} {sh : Nat → Int} {d : DskS}
theorem sto_shape (h : StoB w sb db lb V sh d) : w.cell? ⟨sb, 0, none⟩ = some (.int .i64 (sh 0)) ∧ w.cell? ⟨sb, 1, none⟩ = some (.int .i64 (sh 1)) ∧ w.cell? ⟨sb, 2, none⟩ = some (.int .i64 (sh 2)) ∧ w.cell? ⟨sb, 3, none⟩ = some (.int .i64 (sh 3)) ∧ w.cell? ⟨sb, 4, none⟩ = some (.pointer (some ⟨db, 0, none⟩)) :=
  ⟨h.box.cellAt rfl, h.box.cellAt rfl, h.box.cellAt rfl, h.box.cellAt rfl, h.box.cellAt rfl⟩
theorem sto_block {b size : Nat} (hb : (b : Int) < sh 0) (hsz : sh 1 = size) (h : StoB w sb db lb V sh d) :
    Calls Tryz.prog 88 #[.pointer (some ⟨sb, 0, none⟩), .int .i64 b] w (BlPost (blkOf size (d.sec (1 + b))).1 (blkOf size (d.sec (1 + b))).2 w) := by
  obtain ⟨x0, x1, x2, x3, x4⟩ := sto_shape h
  have HH := Lib.hid h
  have hs0 := h.shp.b1
  have hi : 1 + b < 64 := by omega
  have HI := Lib.hid hi
  have HSZ := Lib.hid (show size ≤ 16 by have := h.shp.s1; omega)
  have HA := Lib.hid (fun w => shp_blockAt (sh := sh) (b := b) (by omega) (by omega) w)
  have HIB := Lib.hid (h.isb (1 + b))
  have HSH := Lib.hid hsz
  have hc : ((1 + b : Nat) : Int) = 1 + (b : Int) := by omega
  have HC := Lib.hid hc
  clear h hs0 hi hb hsz hc
  go_enter Tryz.func88, Tryz.ntmps88
  go_upto_region 2 with (first | (go_at_call 128; refine (HA.out _).mono ?_; rintro e W1 ⟨rfl, ho1⟩; have HO1 := Lib.hid ho1; have HR := sto_read HI.out (HH.out.keep ho1).box (HH.out.keep ho1).dsk; rw [HC.out] at HR; have HR := Lib.hid HR; clear ho1) | (go_at_call 127; refine HR.out.mono ?_; rintro e W2 ⟨r, rfl, hr, ho2⟩))
  have HO2 := Lib.hid (HO1.out.trans ho2)
  have HS2 := Lib.hid ((HH.out.keep HO1.out).keep ho2)
  have HB := Lib.hid (show w.heap.size ≤ W1.heap.size from HO1.out.size)
  generalize d.sec (1 + b) = bs at *
  have HNM := Lib.hid (snum_any hr (fun _ => Nat.zero_le _) HIB.out)
  have HNL := Lib.hid (sNum_le (b := bs) (p := 0) (ok := true) fun _ => Nat.zero_le _)
  clear hr ho2 HR HA x0 x1 x2 x3 x4 HO1
  have HE := Lib.hid (show blkOf size bs = if (sTxt size bs (sNum bs 0 true).2.1 (sNum bs 0 true).2.2).2 = true ∧ (sNum bs 0 true).1 ≤ 1000 then ((sNum bs 0 true).1, (sTxt size bs (sNum bs 0 true).2.1 (sNum bs 0 true).2.2).1) else (0, List.replicate size 0) from rfl)
  generalize (sNum bs 0 true).1 = n1 at *
  generalize (sNum bs 0 true).2.1 = p1 at *
  generalize (sNum bs 0 true).2.2 = k1 at *
  go_upto_region 3 with (go_at_call 129; refine HNM.out.mono ?_; rintro e W3 ⟨rfl, hr3, ho3⟩)
  have HO3 := Lib.hid (HO2.out.trans' ho3 fun k hk => .inr (by obtain ⟨_, _, _, _, _, h4⟩ := hr3; have h5 : k = r := hk; have := HB.out; omega))
  have HS3 := Lib.hid (HS2.out.only ho3 fun k hk e => by obtain ⟨_, _, _, _, _, h4⟩ := hr3; have h5 : k = r := e; have h6 := HH.out.lt hk; have := HB.out; omega)
  have HT := Lib.hid (stext_any size hr3 HNL.out HIB.out)
  have HRB := Lib.hid (show w.heap.size ≤ r by obtain ⟨_, _, _, _, _, h4⟩ := hr3; have := HB.out; omega)
  have x1 := (sto_shape HS3.out).2.1
  rw [HSH.out] at x1
  clear ho3 hr3 HNM HO2 HS2
  generalize hk2 : (sTxt size bs p1 k1).2 = k2 at *
  generalize (sTxt size bs p1 k1).1 = t1 at *
  clear hk2
  go_upto_region 4 with (go_at_call 130; refine HT.out.mono ?_; rintro e W4 ⟨v, rfl, hv4, ⟨p4, hr4⟩, ho4, hk4⟩)
  have HO4 := Lib.hid (HO3.out.trans' ho4 fun k hk => .inr (by have h5 : k = r := hk; have := HRB.out; omega))
  have HS4 := Lib.hid (HS3.out.only ho4 fun k hk e => by have h5 : k = r := e; have h6 := HH.out.lt hk; have := HRB.out; omega)
  have z2 : W4.cell? ⟨r, 2, none⟩ = some (.bool k2) := by obtain ⟨_, _, h1, _⟩ := hr4; exact h1.cellAt rfl
  have y1 := (sto_shape HS4.out).2.1
  rw [HSH.out] at y1
  have HV := Lib.hid hv4
  have HK := Lib.hid (show ∀ k, ownB v k → w.heap.size ≤ k from fun k hk => Nat.le_trans HO3.out.size (hk4 k hk))
  clear ho4 hr4 hv4 hk4 HT HO3 HS3 x1
  have hmk : ∀ w, (Instr.makeSlice 23 (.int .i64 size) (.int .i64 size)).run Tryz.prog w = .ok (.slice (some ⟨w.heap.size, 0, none⟩) size size) (w.alloc (.cells (madeCells #[.int .u8 0] size) 5)) := fun w =>
    run_make_row' (P := Tryz.prog) 23 5 _ 1 Tryz.underlying23 byteInfo rfl .i64 .i64 size (by have := HSZ.out; omega) (by have := HSZ.out; omega) w
  have HMK := Lib.hid hmk
  clear hmk
  have zeros : ∀ W, Only Non w W → BlPost 0 (List.replicate size 0) w (.returned (.tuple #[.int .i64 0, .slice (some ⟨W.heap.size, 0, none⟩) size size])) (W.alloc (.cells (madeCells #[.int .u8 0] size) 5)) := fun W ho =>
    ⟨_, rfl, made_bytes W size (by have := HSZ.out; omega), ho.alloc _, fun k hk => by rw [ownB_slice] at hk; subst hk; exact ho.size⟩
  have HZ := Lib.hid zeros
  clear zeros
  cases k2 with
  | false =>
    have HE' := Lib.hid (HE.out.trans (if_neg (by simp)))
    go_upto_region 5 with fail
    refine wp_region_tail (S := (fun w' : World => w'.cell? ⟨sb, 1, none⟩ = some (.int .i64 size))) 7 (by kernel_rfl) (by kernel_rfl) ?_ ?_
    · first | exact hS5 | exact y1
    intro hSS
    refine wpHd_take (i := 0) (v := ?_) (by kernel_rfl) rfl (by kernel_rfl) (fun _ _ _ h => h) (Or.inl ⟨by rfl, ?_⟩) (by assumption) ?_
    rotate_left
    · intro w hSw; (try dsimp only at hSw); go_simp; (try with_reducible rfl)
    try simp only [Act.put, List.getElem_toArray, List.getElem_cons_succ, List.getElem_cons_zero, List.setIfInBounds_toArray, List.set_cons_zero, List.set_cons_succ]
    refine wpHd_take (i := 1) (v := ?_) (by kernel_rfl) rfl (by kernel_rfl) (fun _ _ _ h => h) (Or.inl ⟨by rfl, ?_⟩) (by assumption) ?_
    rotate_left
    · intro w hSw; (try dsimp only at hSw); go_simp; (try with_reducible rfl)
    try simp only [Act.put, List.getElem_toArray, List.getElem_cons_succ, List.getElem_cons_zero, List.setIfInBounds_toArray, List.set_cons_zero, List.set_cons_succ]
    refine wpHd_take (i := 2) (v := ?_) (by kernel_rfl) rfl (by kernel_rfl) (fun _ _ _ h => h) (Or.inl ⟨by rfl, ?_⟩) (by assumption) ?_
    rotate_left
    · intro w hSw; (try dsimp only at hSw); go_simp; (try with_reducible rfl)
    try simp only [Act.put, List.getElem_toArray, List.getElem_cons_succ, List.getElem_cons_zero, List.setIfInBounds_toArray, List.set_cons_zero, List.set_cons_succ]
    refine wpHd_take (i := 3) (v := ?_) (by kernel_rfl) rfl (by kernel_rfl) (fun _ _ _ h => h) (Or.inl ⟨by rfl, ?_⟩) (by assumption) ?_
    rotate_left
    · intro w hSw; (try dsimp only at hSw); go_simp; (try with_reducible rfl)
    try simp only [Act.put, List.getElem_toArray, List.getElem_cons_succ, List.getElem_cons_zero, List.setIfInBounds_toArray, List.set_cons_zero, List.set_cons_succ]
    refine wpHd_take (i := 4) (v := ?_) (by kernel_rfl) rfl (by kernel_rfl) (fun _ _ _ h => h) (Or.inl ⟨by rfl, ?_⟩) (by assumption) ?_
    rotate_left
    · intro w hSw; (try dsimp only at hSw); go_simp; (try with_reducible rfl)
    try simp only [Act.put, List.getElem_toArray, List.getElem_cons_succ, List.getElem_cons_zero, List.setIfInBounds_toArray, List.set_cons_zero, List.set_cons_succ]
    refine wpHd_take (i := 6) (v := ?_) (by kernel_rfl) rfl (by kernel_rfl) (fun _ _ _ h => h) (Or.inl ⟨by rfl, ?_⟩) (by assumption) ?_
    rotate_left
    · intro w hSw; (try dsimp only at hSw); go_simp; (try with_reducible rfl)
    try simp only [Act.put, List.getElem_toArray, List.getElem_cons_succ, List.getElem_cons_zero, List.setIfInBounds_toArray, List.set_cons_zero, List.set_cons_succ]
    refine wpHd_one (i := 5) rfl (by kernel_rfl) (fun K hK => ?_)
    have hmk := HMK.out
    go_simp
    have hS5 : (W4.drew.alloc (.cells (madeCells #[.int .u8 0] size) 5)).cell? ⟨sb, 1, none⟩ = some (.int .i64 size) := ((Only.refl Non W4.drew).alloc _).cell (show W4.drew.cell? ⟨sb, 1, none⟩ = _ from y1) id
    clear hmk
    refine hK.out _ _ ?_ (fun hSS => ?_)
    · first | exact hS5 | exact y1
    clear hK
    try simp only [Act.put, List.getElem_toArray, List.getElem_cons_succ, List.getElem_cons_zero, List.setIfInBounds_toArray, List.set_cons_zero, List.set_cons_succ]
    refine wpHd_end (by kernel_rfl) ?_
    clear hSS hS5
    go_wp2_with fail
    go_ret2
    rw [HE'.out]
    exact HZ.out _ HO4.out.drew
  | true =>
    by_cases hn : n1 ≤ 1000
    · have HE' := Lib.hid (HE.out.trans (if_pos ⟨rfl, hn⟩))
      have hn1 : ¬ (1000 : Int) < n1 := by omega
      go_wp2_with fail
      go_ret2
      rw [HE'.out]
      exact ⟨v, rfl, HV.out, HO4.out, HK.out⟩
    · have HE' := Lib.hid (HE.out.trans (if_neg (fun h => hn h.2)))
      have hn1 : (1000 : Int) < n1 := by omega
      go_upto_region 5 with fail
      refine wp_region_tail (S := (fun w' : World => w'.cell? ⟨sb, 1, none⟩ = some (.int .i64 size))) 7 (by kernel_rfl) (by kernel_rfl) ?_ ?_
      · first | exact hS5 | exact y1
      intro hSS
      refine wpHd_take (i := 0) (v := ?_) (by kernel_rfl) rfl (by kernel_rfl) (fun _ _ _ h => h) (Or.inl ⟨by rfl, ?_⟩) (by assumption) ?_
      rotate_left
      · intro w hSw; (try dsimp only at hSw); go_simp; (try with_reducible rfl)
      try simp only [Act.put, List.getElem_toArray, List.getElem_cons_succ, List.getElem_cons_zero, List.setIfInBounds_toArray, List.set_cons_zero, List.set_cons_succ]
      refine wpHd_take (i := 1) (v := ?_) (by kernel_rfl) rfl (by kernel_rfl) (fun _ _ _ h => h) (Or.inl ⟨by rfl, ?_⟩) (by assumption) ?_
      rotate_left
      · intro w hSw; (try dsimp only at hSw); go_simp; (try with_reducible rfl)
      try simp only [Act.put, List.getElem_toArray, List.getElem_cons_succ, List.getElem_cons_zero, List.setIfInBounds_toArray, List.set_cons_zero, List.set_cons_succ]
      refine wpHd_take (i := 2) (v := ?_) (by kernel_rfl) rfl (by kernel_rfl) (fun _ _ _ h => h) (Or.inl ⟨by rfl, ?_⟩) (by assumption) ?_
      rotate_left
      · intro w hSw; (try dsimp only at hSw); go_simp; (try with_reducible rfl)
      try simp only [Act.put, List.getElem_toArray, List.getElem_cons_succ, List.getElem_cons_zero, List.setIfInBounds_toArray, List.set_cons_zero, List.set_cons_succ]
      refine wpHd_take (i := 3) (v := ?_) (by kernel_rfl) rfl (by kernel_rfl) (fun _ _ _ h => h) (Or.inl ⟨by rfl, ?_⟩) (by assumption) ?_
      rotate_left
      · intro w hSw; (try dsimp only at hSw); go_simp; (try with_reducible rfl)
      try simp only [Act.put, List.getElem_toArray, List.getElem_cons_succ, List.getElem_cons_zero, List.setIfInBounds_toArray, List.set_cons_zero, List.set_cons_succ]
      refine wpHd_take (i := 4) (v := ?_) (by kernel_rfl) rfl (by kernel_rfl) (fun _ _ _ h => h) (Or.inl ⟨by rfl, ?_⟩) (by assumption) ?_
      rotate_left
      · intro w hSw; (try dsimp only at hSw); go_simp; (try with_reducible rfl)
      try simp only [Act.put, List.getElem_toArray, List.getElem_cons_succ, List.getElem_cons_zero, List.setIfInBounds_toArray, List.set_cons_zero, List.set_cons_succ]
      refine wpHd_take (i := 6) (v := ?_) (by kernel_rfl) rfl (by kernel_rfl) (fun _ _ _ h => h) (Or.inl ⟨by rfl, ?_⟩) (by assumption) ?_
      rotate_left
      · intro w hSw; (try dsimp only at hSw); go_simp; (try with_reducible rfl)
      try simp only [Act.put, List.getElem_toArray, List.getElem_cons_succ, List.getElem_cons_zero, List.setIfInBounds_toArray, List.set_cons_zero, List.set_cons_succ]
      refine wpHd_one (i := 5) rfl (by kernel_rfl) (fun K hK => ?_)
      have hmk := HMK.out
      go_simp
      have hS5 : (W4.drew.alloc (.cells (madeCells #[.int .u8 0] size) 5)).cell? ⟨sb, 1, none⟩ = some (.int .i64 size) := ((Only.refl Non W4.drew).alloc _).cell (show W4.drew.cell? ⟨sb, 1, none⟩ = _ from y1) id
      clear hmk
      refine hK.out _ _ ?_ (fun hSS => ?_)
      · first | exact hS5 | exact y1
      clear hK
      try simp only [Act.put, List.getElem_toArray, List.getElem_cons_succ, List.getElem_cons_zero, List.setIfInBounds_toArray, List.set_cons_zero, List.set_cons_succ]
      refine wpHd_end (by kernel_rfl) ?_
      clear hSS hS5
      go_wp2_with fail
      go_ret2
      rw [HE'.out]
      exact HZ.out _ HO4.out.drew
end
end Go.Proofs.YtcphifphidcbaaaGreat
