/- from: the search. Printed by histe.py. -/
import Derived.Test.YthfafegfooibmaaHistD
namespace Go.Proofs.Ythfafegfooibmaa
open Go.RowKit Go.ChangeShapes Go.WideShapes
set_option linter.unusedVariables false
set_option linter.unusedSimpArgs false
theorem intInfo : (Try.prog.info? 3).map (fun i => (i.zero, i.size, i.bytes)) = some (some (.int .i64 0), 1, 8) := by kernel_rfl
theorem WayD_len {os : List DoneR} {size : Nat} : ∀ {is : List Nat} {x : StD}, WayD os size x is → is.length ≤ (leftD os x).length
  | [], _, _ => Nat.zero_le _
  | i :: is, x, ⟨hi, ⟨hb, _⟩, hw⟩ => by
    have h1 := WayD_len hw
    have h2 := (left_next (x := x) hi hb).length_eq
    simp only [List.length_cons] at h2 ⊢
    omega
theorem left_le (os : List DoneR) (x : StD) : (leftD os x).length ≤ os.length := by
  unfold leftD
  rw [List.length_map]
  exact Nat.le_trans (List.length_filter_le _ _) (by rw [List.length_range]; exact Nat.le_refl _)
theorem from_len {l : List DoneR} {ps : List Nat} {size f : Nat} {x : StD} {s s' : MemD} {lst : List Nat} (h : fromD (osN l ps) size f x s = (some lst, s')) : lst.length ≤ ps.length := by
  have h1 := WayD_len (fromD_some _ _ _ _ _ h)
  have h2 := left_le (osN l ps) x
  simp only [List.length_reverse, List.length_map] at h1 h2
  omega
abbrev Two (sb mb : Nat) : Nat → Prop := fun k => k = sb ∨ k = mb
def FrPost (w0 : World) (sb mb : Nat) (A : Option Addr) (c : Nat) (l : List DoneR) (av : Value) (ps : List Nat) (size : Nat) (r : Option (List Nat) × MemD) (w : World) (e : Ending) (w' : World) : Prop :=
  ∃ lv, e = .returned (.tuple #[lv, .bool r.1.isSome]) ∧ OwnInts 3 w' w0.heap.size lv (intsN ((r.1.getD []).map fun i => ps.getD i 0)) ∧ (∀ k, ownB lv k → w.heap.size ≤ k) ∧ Sch w0 w' sb mb A c l av ps size r.2 ∧ Only (Two sb mb) w w'
def FromOK (w0 : World) (sb mb : Nat) (A : Option Addr) (c : Nat) (l : List DoneR) (av : Value) (ps : List Nat) (size f : Nat) : Prop :=
  ∀ (w : World) (x : StD) (s : MemD), Sch w0 w sb mb A c l av ps size s → x.1 < 2 ^ ps.length → 2 ^ ps.length ≤ x.1 + f → -1 ≤ x.2 → x.2 < ps.length →
    Calls Try.prog 14 #[.pointer (some ⟨sb, 0, none⟩), stV x] w (FrPost w0 sb mb A c l av ps size (fromD (osN l ps) size f x s) w)
def FmRel (w0 : World) (sb mb : Nat) (A : Option Addr) (c : Nat) (l : List DoneR) (av : Value) (ps : List Nat) (size f : Nat) (x : StD) (R : Option (List Nat) × MemD) (W : World) (i : Value) (wr : World) : Prop :=
  ∃ (k : Nat) (s' : MemD), k ≤ ps.length ∧ i = .int .i64 k ∧ Sch w0 wr sb mb A c l av ps size s' ∧ loopD (osN l ps) size (fromD (osN l ps) size f) x ((List.range ps.length).drop k) s' = R ∧ Only (Two sb mb) W wr
theorem range_drop {n k : Nat} (h : k < n) : (List.range n).drop k = k :: (List.range n).drop (k + 1) := by
  rw [List.drop_eq_getElem_cons (by simpa using h)]
  simp
section
variable {w0 w w' : World} {sb mb : Nat} {A : Option Addr} {c : Nat} {l : List DoneR} {av : Value} {ps : List Nat} {size : Nat} {s : MemD}
/-- another block of the call's own is written -/
theorem Sch.far (h : Sch w0 w sb mb A c l av ps size s) {nb : Nat} (ho : Only (Just nb) w w') (h0 : w0.heap.size ≤ nb) (h1 : nb ≠ sb) (h2 : nb ≠ mb) (h3 : ¬ ownB av nb) : Sch w0 w' sb mb A c l av ps size s :=
  ⟨h.o.trans' ho fun b hb => .inr (by have hb : b = nb := hb; omega), h.sb_, h.mb_, ho.box h.box (fun e => h1 (show sb = nb from e).symm), h.met.only ho (fun e => h2 (show mb = nb from e).symm), h.dn, h.at_.only ho fun k hk e => h3 (by have e : k = nb := e; rw [← e]; exact hk), h.pl, h.sz, h.most⟩
theorem OwnInts.type {t : TypeId} {w : World} {base : Nat} {v : Value} {xs : List Int} (h : OwnInts t w base v xs) {k : Nat} (hk : ownB v k) : ∃ cs, Box w k t cs := by
  rcases h.2 with ⟨rfl, _⟩ | ⟨g, cap, cur, rfl, _, hg, _⟩
  · exact absurd hk ownB_none
  · obtain rfl := ownB_slice.1 hk
    exact ⟨cur, hg⟩
theorem Sch.not_av (h : Sch w0 w sb mb A c l av ps size s) {k : Nat} {t : TypeId} {cs : Array Value} (hb : Box w k t cs) (ht : t ≠ 3) : ¬ ownB av k := fun hk => by
  obtain ⟨cs', hb'⟩ := h.at_.type hk
  exact ht (hb.same hb').1
theorem Sch.av_two (h : Sch w0 w sb mb A c l av ps size s) : ∀ k, ownB av k → ¬ Two sb mb k := fun k hk e => by
  obtain ⟨cs', hb'⟩ := h.at_.type hk
  rcases e with rfl | rfl
  · exact h.not_av h.box (by decide) hk
  · exact h.met.ne hb' rfl
theorem Sch.lst (h : Sch w0 w sb mb A c l av ps size s) {lv : Value} {xs : List Int} (hown : OwnInts 3 w w0.heap.size lv xs) (ho : Only (ownB lv) w w') (hnav : ∀ k, ownB lv k → ¬ ownB av k) : Sch w0 w' sb mb A c l av ps size s :=
  ⟨h.o.trans' ho fun b hb => .inr (hown.lt b hb).1, h.sb_, h.mb_, ho.box h.box (fun hk => by obtain ⟨cs', hb'⟩ := hown.type hk; exact absurd (h.box.same hb').1 (by decide)), h.met.only ho (fun hk => by obtain ⟨cs', hb'⟩ := hown.type hk; exact h.met.ne hb' rfl), h.dn, h.at_.only ho (fun k hk hlv => hnav k hlv hk), h.pl, h.sz, h.most⟩
theorem Sch.step (h : Sch w0 w sb mb A c l av ps size s) {x : StD} {w4 : World} (hm : Met w4 mb (x :: s.1)) (ho : Only (Just mb) w w4) : Sch w0 (w4.setCell ⟨sb, 4, none⟩ (.int .i64 ((s.2 + 1 : Nat) : Int))) sb mb A c l av ps size (x :: s.1, s.2 + 1) ∧
    Only (Two sb mb) w (w4.setCell ⟨sb, 4, none⟩ (.int .i64 ((s.2 + 1 : Nat) : Int))) ∧ Box w4 sb 42 (schC A c l av size mb s.2) := by
  have hne : sb ≠ mb := h.met.ne h.box
  have hb4 : Box w4 sb 42 (schC A c l av size mb s.2) := ho.box h.box (fun e => hne e)
  have ho5 : Only (Just sb) w4 (w4.setCell ⟨sb, 4, none⟩ (.int .i64 ((s.2 + 1 : Nat) : Int))) := (Only.refl (Just sb) w4).setCell (p := ⟨sb, 4, none⟩) (.inl rfl) _
  have h4 : Only (Two sb mb) w w4 := ho.mono fun b hb => .inl (.inr hb)
  have hall := h4.trans' ho5 fun b hb => .inl (.inl hb)
  refine ⟨⟨h.o.trans' hall fun b hb => ?_, h.sb_, h.mb_, ?_, hm.only ho5 (fun e => hne (show mb = sb from e).symm), h.dn, h.at_.only hall h.av_two, h.pl, h.sz, h.most⟩, hall, hb4⟩
  · rcases hb with rfl | rfl
    · exact .inr h.sb_
    · exact .inr h.mb_
  · exact hb4.store 4 _
end
section
set_option maxHeartbeats 4000000
set_option maxRecDepth 100000
theorem from_any (w0 : World) (sb mb : Nat) (A : Option Addr) (c : Nat) (l : List DoneR) (av : Value) (ps : List Nat) (size : Nat) : ∀ f, FromOK w0 sb mb A c l av ps size f := by
  intro f
  induction f with
  | zero => intro w x s _ h1 h2 _ _; omega
  | succ f ih =>
    intro w x s h hx hf hl0 hl
    obtain ⟨x1, x2⟩ := x
    dsimp only at hx hf hl0 hl
    have IH := Lib.hid ih
    clear ih
    have hml := h.most
    have hx64 : x1 < 18446744073709551616 := Nat.lt_of_lt_of_le hx (Nat.le_trans (Nat.pow_le_pow_right (by decide) hml) (by decide))
    have HO := Lib.hid (show Only Non w (w.alloc (.cells #[.int .u64 x1, .int .i64 x2] 48)) from (Only.refl _ _).alloc _)
    have H := Lib.hid (h.keep HO.out)
    have Hx := Lib.hid hx
    have Hf := Lib.hid hf
    have Hl := Lib.hid hl
    have Hl0 := Lib.hid hl0
    have hP : StP (x1, x2) := ⟨hx64, by dsimp only; omega, by dsimp only; omega⟩
    have HP := Lib.hid hP
    obtain ⟨B, cc, rfl, hcc, hcm⟩ := h.at_shape
    obtain ⟨Ac, Am⟩ := And.intro h.dn.cap h.dn.max
    have hRD : fromD (osN l ps) size (f + 1) (x1, x2) s = if overD (osN l ps) (x1, x2) then (some [], s) else if (x1, x2) ∈ s.1 ∨ limD < s.2 then (none, s) else loopD (osN l ps) size (fromD (osN l ps) size f) (x1, x2) (List.range (osN l ps).length) ((x1, x2) :: s.1, s.2 + 1) := rfl
    rw [show (osN l ps).length = ps.length from by simp] at hRD
    generalize fromD (osN l ps) size (f + 1) (x1, x2) s = R at *
    clear h hx hf hl hP
    unfold stV
    dsimp only
    have HX := Lib.hid (Box.fresh w 48 #[.int .u64 x1, .int .i64 x2])
    go_enter Try.func14, Try.ntmps14
    go_upto_region 1 with fail
    generalize w.alloc (.cells #[.int .u64 x1, .int .i64 x2] 48) = W at *
    generalize hxb : w.heap.size = xb at *
    have Hxb := Lib.hid hxb
    clear hxb
    have ax : W.cell? ⟨xb, 0, none⟩ = some (.int .u64 x1) := HX.out.cellAt rfl
    have ay : W.cell? ⟨xb, 1, none⟩ = some (.int .i64 x2) := HX.out.cellAt rfl
    have HV := over_any H.out (x1, x2) hx64
    by_cases hov : overD (osN l ps) (x1, x2)
    · rw [decide_eq_true hov] at HV
      rw [if_pos hov] at hRD
      have HV := Lib.hid HV
      have HR := Lib.hid hRD
      clear hRD hov
      go_wp2_with fail
      refine HV.out.mono ?_
      rintro e W2 ⟨rfl, ho2⟩
      have HO2 := Lib.hid (HO.out.transN ho2)
      have H2 := Lib.hid (H.out.keep ho2)
      clear ho2
      go_wp2_with fail
      go_ret2
      exact ⟨.slice none 0 0, by rw [HR.out]; rfl, by rw [HR.out]; exact OwnInts.nil _ _ _, fun k hk => absurd hk ownB_none, by rw [HR.out]; exact H2.out, HO2.out.mono fun _ hb => hb.elim⟩
    · rw [decide_eq_false hov] at HV
      rw [if_neg hov] at hRD
      have HV := Lib.hid HV
      have HRD := Lib.hid hRD
      clear hov hRD
      go_wp2_with fail
      refine HV.out.mono ?_
      rintro e W2 ⟨rfl, ho2⟩
      have HO2 := Lib.hid (HO.out.transN ho2)
      have HX2 := Lib.hid (ho2.box HX.out id)
      have H2 := Lib.hid (H.out.keep ho2)
      clear ho2 ax ay HO H HX
      have HLK := run_look (w := W2.drew) (H2.out.met) HP.out
      go_upto_region 3 with fail
      have ax : W2.drew.cell? ⟨xb, 0, none⟩ = some (.int .u64 x1) := HX2.out.cellAt rfl
      have ay : W2.drew.cell? ⟨xb, 1, none⟩ = some (.int .i64 x2) := HX2.out.cellAt rfl
      have c3 : W2.drew.cell? ⟨sb, 3, none⟩ = some (.map (some mb)) := H2.out.box.cellAt rfl
      have c4 : W2.drew.cell? ⟨sb, 4, none⟩ = some (.int .i64 (s.2 : Nat)) := H2.out.box.cellAt rfl
      have hRD := HRD.out
      clear HRD
      by_cases hmem : (x1, x2) ∈ s.1
      · rw [decide_eq_true hmem] at HLK
        rw [if_pos (.inl hmem)] at hRD
        have HLK := Lib.hid HLK
        have HR := Lib.hid hRD
        clear hRD hmem
        refine wp_region_tail (S := (fun w' : World => w' = W2.drew)) 12 (by kernel_rfl) (by kernel_rfl) ?_ ?_
        · rfl
        intro hSS
        refine wpHd_take (i := 0) (v := ?_) (by kernel_rfl) rfl (by kernel_rfl) (fun _ _ _ h => h) (Or.inl ⟨by rfl, ?_⟩) (by assumption) ?_
        rotate_left
        · intro w hSw; (try dsimp only at hSw); go_simp; (try with_reducible rfl)
        try simp only [Act.put, List.getElem_toArray, List.getElem_cons_succ, List.getElem_cons_zero, List.setIfInBounds_toArray, List.set_cons_zero, List.set_cons_succ]
        refine wpHd_take (i := 1) (v := ?_) (by kernel_rfl) rfl (by kernel_rfl) (fun _ _ _ h => h) (Or.inl ⟨by rfl, ?_⟩) (by assumption) ?_
        rotate_left
        · intro w hSw; (try dsimp only at hSw); go_simp; (try with_reducible rfl)
        try simp only [Act.put, List.getElem_toArray, List.getElem_cons_succ, List.getElem_cons_zero, List.setIfInBounds_toArray, List.set_cons_zero, List.set_cons_succ]
        refine wpHd_take (i := 2) (v := ?_) (by kernel_rfl) rfl (by kernel_rfl) (fun _ _ _ h => h) (Or.inl ⟨by rfl, ?_⟩) (by assumption) ?_
        rotate_left
        · intro w hSw; (try dsimp only at hSw); go_simp; (try with_reducible rfl)
        try simp only [Act.put, List.getElem_toArray, List.getElem_cons_succ, List.getElem_cons_zero, List.setIfInBounds_toArray, List.set_cons_zero, List.set_cons_succ]
        refine wpHd_take (i := 3) (v := ?_) (by kernel_rfl) rfl (by kernel_rfl) (fun _ _ _ h => h) (Or.inl ⟨by rfl, ?_⟩) (by assumption) ?_
        rotate_left
        · intro w hSw; (try dsimp only at hSw); go_simp; (try with_reducible rfl)
        try simp only [Act.put, List.getElem_toArray, List.getElem_cons_succ, List.getElem_cons_zero, List.setIfInBounds_toArray, List.set_cons_zero, List.set_cons_succ]
        refine wpHd_take (i := 4) (v := stV (x1, x2)) (by kernel_rfl) rfl (by kernel_rfl) (fun _ _ _ h => h) (Or.inl ⟨by rfl, ?_⟩) (by assumption) ?_
        · intro w hSw; (try dsimp only at hSw); (try subst hSw); go_simp; (try rfl)
        try simp only [Act.put, List.getElem_toArray, List.getElem_cons_succ, List.getElem_cons_zero, List.setIfInBounds_toArray, List.set_cons_zero, List.set_cons_succ]
        refine wpHd_take (i := 5) (v := .bool true) (by kernel_rfl) rfl (by kernel_rfl) (fun _ _ _ h => h) (Or.inl ⟨by rfl, ?_⟩) (by assumption) ?_
        · intro w hSw; (try dsimp only at hSw); subst hSw; have hlk := HLK.out; go_simp; (try rfl)
        try simp only [Act.put, List.getElem_toArray, List.getElem_cons_succ, List.getElem_cons_zero, List.setIfInBounds_toArray, List.set_cons_zero, List.set_cons_succ]
        refine wpHd_take (i := 6) (v := ?_) (by kernel_rfl) rfl (by kernel_rfl) (fun _ _ _ h => h) (Or.inl ⟨by rfl, ?_⟩) (by assumption) ?_
        rotate_left
        · intro w hSw; (try dsimp only at hSw); go_simp; (try with_reducible rfl)
        try simp only [Act.put, List.getElem_toArray, List.getElem_cons_succ, List.getElem_cons_zero, List.setIfInBounds_toArray, List.set_cons_zero, List.set_cons_succ]
        refine wpHd_take (i := 7) (v := undef) (by kernel_rfl) rfl (by kernel_rfl) (fun _ _ _ h => h) (Or.inr ⟨by rfl, rfl⟩) (by assumption) ?_
        try simp only [Act.put, List.getElem_toArray, List.getElem_cons_succ, List.getElem_cons_zero, List.setIfInBounds_toArray, List.set_cons_zero, List.set_cons_succ]
        refine wpHd_take (i := 8) (v := undef) (by kernel_rfl) rfl (by kernel_rfl) (fun _ _ _ h => h) (Or.inr ⟨by rfl, rfl⟩) (by assumption) ?_
        try simp only [Act.put, List.getElem_toArray, List.getElem_cons_succ, List.getElem_cons_zero, List.setIfInBounds_toArray, List.set_cons_zero, List.set_cons_succ]
        refine wpHd_take (i := 9) (v := undef) (by kernel_rfl) rfl (by kernel_rfl) (fun _ _ _ h => h) (Or.inr ⟨by rfl, rfl⟩) (by assumption) ?_
        try simp only [Act.put, List.getElem_toArray, List.getElem_cons_succ, List.getElem_cons_zero, List.setIfInBounds_toArray, List.set_cons_zero, List.set_cons_succ]
        refine wpHd_take (i := 10) (v := undef) (by kernel_rfl) rfl (by kernel_rfl) (fun _ _ _ h => h) (Or.inr ⟨by rfl, rfl⟩) (by assumption) ?_
        try simp only [Act.put, List.getElem_toArray, List.getElem_cons_succ, List.getElem_cons_zero, List.setIfInBounds_toArray, List.set_cons_zero, List.set_cons_succ]
        refine wpHd_take (i := 11) (v := undef) (by kernel_rfl) rfl (by kernel_rfl) (fun _ _ _ h => h) (Or.inr ⟨by rfl, rfl⟩) (by assumption) ?_
        try simp only [Act.put, List.getElem_toArray, List.getElem_cons_succ, List.getElem_cons_zero, List.setIfInBounds_toArray, List.set_cons_zero, List.set_cons_succ]
        refine wpHd_end (by kernel_rfl) ?_
        clear hSS
        go_wp2_with fail
        go_ret2
        exact ⟨.slice none 0 0, by rw [HR.out]; rfl, by rw [HR.out]; exact OwnInts.nil _ _ _, fun k hk => absurd hk ownB_none, by rw [HR.out]; exact H2.out.keep (Only.refl Non W2).drew, (HO2.out.drew).mono fun _ hb => hb.elim⟩
      · rw [decide_eq_false hmem] at HLK
        have HLK := Lib.hid HLK
        by_cases hst : 200000 < s.2
        · have hsti : (200000 : Int) < ((s.2 : Nat) : Int) := by omega
          rw [if_pos (.inr hst)] at hRD
          have HR := Lib.hid hRD
          clear hRD hmem hst
          refine wp_region_tail (S := (fun w' : World => w' = W2.drew)) 12 (by kernel_rfl) (by kernel_rfl) ?_ ?_
          · rfl
          intro hSS
          refine wpHd_take (i := 0) (v := ?_) (by kernel_rfl) rfl (by kernel_rfl) (fun _ _ _ h => h) (Or.inl ⟨by rfl, ?_⟩) (by assumption) ?_
          rotate_left
          · intro w hSw; (try dsimp only at hSw); go_simp; (try with_reducible rfl)
          try simp only [Act.put, List.getElem_toArray, List.getElem_cons_succ, List.getElem_cons_zero, List.setIfInBounds_toArray, List.set_cons_zero, List.set_cons_succ]
          refine wpHd_take (i := 1) (v := ?_) (by kernel_rfl) rfl (by kernel_rfl) (fun _ _ _ h => h) (Or.inl ⟨by rfl, ?_⟩) (by assumption) ?_
          rotate_left
          · intro w hSw; (try dsimp only at hSw); go_simp; (try with_reducible rfl)
          try simp only [Act.put, List.getElem_toArray, List.getElem_cons_succ, List.getElem_cons_zero, List.setIfInBounds_toArray, List.set_cons_zero, List.set_cons_succ]
          refine wpHd_take (i := 2) (v := ?_) (by kernel_rfl) rfl (by kernel_rfl) (fun _ _ _ h => h) (Or.inl ⟨by rfl, ?_⟩) (by assumption) ?_
          rotate_left
          · intro w hSw; (try dsimp only at hSw); go_simp; (try with_reducible rfl)
          try simp only [Act.put, List.getElem_toArray, List.getElem_cons_succ, List.getElem_cons_zero, List.setIfInBounds_toArray, List.set_cons_zero, List.set_cons_succ]
          refine wpHd_take (i := 3) (v := ?_) (by kernel_rfl) rfl (by kernel_rfl) (fun _ _ _ h => h) (Or.inl ⟨by rfl, ?_⟩) (by assumption) ?_
          rotate_left
          · intro w hSw; (try dsimp only at hSw); go_simp; (try with_reducible rfl)
          try simp only [Act.put, List.getElem_toArray, List.getElem_cons_succ, List.getElem_cons_zero, List.setIfInBounds_toArray, List.set_cons_zero, List.set_cons_succ]
          refine wpHd_take (i := 4) (v := stV (x1, x2)) (by kernel_rfl) rfl (by kernel_rfl) (fun _ _ _ h => h) (Or.inl ⟨by rfl, ?_⟩) (by assumption) ?_
          · intro w hSw; (try dsimp only at hSw); (try subst hSw); go_simp; (try rfl)
          try simp only [Act.put, List.getElem_toArray, List.getElem_cons_succ, List.getElem_cons_zero, List.setIfInBounds_toArray, List.set_cons_zero, List.set_cons_succ]
          refine wpHd_take (i := 5) (v := .bool false) (by kernel_rfl) rfl (by kernel_rfl) (fun _ _ _ h => h) (Or.inl ⟨by rfl, ?_⟩) (by assumption) ?_
          · intro w hSw; (try dsimp only at hSw); subst hSw; have hlk := HLK.out; go_simp; (try rfl)
          try simp only [Act.put, List.getElem_toArray, List.getElem_cons_succ, List.getElem_cons_zero, List.setIfInBounds_toArray, List.set_cons_zero, List.set_cons_succ]
          refine wpHd_take (i := 6) (v := ?_) (by kernel_rfl) rfl (by kernel_rfl) (fun _ _ _ h => h) (Or.inl ⟨by rfl, ?_⟩) (by assumption) ?_
          rotate_left
          · intro w hSw; (try dsimp only at hSw); go_simp; (try with_reducible rfl)
          try simp only [Act.put, List.getElem_toArray, List.getElem_cons_succ, List.getElem_cons_zero, List.setIfInBounds_toArray, List.set_cons_zero, List.set_cons_succ]
          refine wpHd_take (i := 7) (v := ?_) (by kernel_rfl) rfl (by kernel_rfl) (fun _ _ _ h => h) (Or.inl ⟨by rfl, ?_⟩) (by assumption) ?_
          rotate_left
          · intro w hSw; (try dsimp only at hSw); go_simp; (try with_reducible rfl)
          try simp only [Act.put, List.getElem_toArray, List.getElem_cons_succ, List.getElem_cons_zero, List.setIfInBounds_toArray, List.set_cons_zero, List.set_cons_succ]
          refine wpHd_take (i := 8) (v := ?_) (by kernel_rfl) rfl (by kernel_rfl) (fun _ _ _ h => h) (Or.inl ⟨by rfl, ?_⟩) (by assumption) ?_
          rotate_left
          · intro w hSw; (try dsimp only at hSw); go_simp; (try with_reducible rfl)
          try simp only [Act.put, List.getElem_toArray, List.getElem_cons_succ, List.getElem_cons_zero, List.setIfInBounds_toArray, List.set_cons_zero, List.set_cons_succ]
          refine wpHd_take (i := 9) (v := ?_) (by kernel_rfl) rfl (by kernel_rfl) (fun _ _ _ h => h) (Or.inl ⟨by rfl, ?_⟩) (by assumption) ?_
          rotate_left
          · intro w hSw; (try dsimp only at hSw); go_simp; (try with_reducible rfl)
          try simp only [Act.put, List.getElem_toArray, List.getElem_cons_succ, List.getElem_cons_zero, List.setIfInBounds_toArray, List.set_cons_zero, List.set_cons_succ]
          refine wpHd_take (i := 10) (v := ?_) (by kernel_rfl) rfl (by kernel_rfl) (fun _ _ _ h => h) (Or.inl ⟨by rfl, ?_⟩) (by assumption) ?_
          rotate_left
          · intro w hSw; (try dsimp only at hSw); go_simp; (try with_reducible rfl)
          try simp only [Act.put, List.getElem_toArray, List.getElem_cons_succ, List.getElem_cons_zero, List.setIfInBounds_toArray, List.set_cons_zero, List.set_cons_succ]
          refine wpHd_take (i := 11) (v := ?_) (by kernel_rfl) rfl (by kernel_rfl) (fun _ _ _ h => h) (Or.inl ⟨by rfl, ?_⟩) (by assumption) ?_
          rotate_left
          · intro w hSw; (try dsimp only at hSw); go_simp; (try with_reducible rfl)
          try simp only [Act.put, List.getElem_toArray, List.getElem_cons_succ, List.getElem_cons_zero, List.setIfInBounds_toArray, List.set_cons_zero, List.set_cons_succ]
          refine wpHd_end (by kernel_rfl) ?_
          clear hSS
          go_wp2_with fail
          go_ret2
          exact ⟨.slice none 0 0, by rw [HR.out]; rfl, by rw [HR.out]; exact OwnInts.nil _ _ _, fun k hk => absurd hk ownB_none, by rw [HR.out]; exact H2.out.keep (Only.refl Non W2).drew, (HO2.out.drew).mono fun _ hb => hb.elim⟩
        · have hsti : ¬ (200000 : Int) < ((s.2 : Nat) : Int) := by omega
          rw [if_neg (fun h => h.elim hmem hst)] at hRD
          have HR := Lib.hid hRD
          have Hmem := Lib.hid hmem
          have Hst := Lib.hid hst
          clear hRD hmem hst
          refine wp_region_tail (S := (fun w' : World => w' = W2.drew)) 12 (by kernel_rfl) (by kernel_rfl) ?_ ?_
          · rfl
          intro hSS
          refine wpHd_take (i := 0) (v := ?_) (by kernel_rfl) rfl (by kernel_rfl) (fun _ _ _ h => h) (Or.inl ⟨by rfl, ?_⟩) (by assumption) ?_
          rotate_left
          · intro w hSw; (try dsimp only at hSw); go_simp; (try with_reducible rfl)
          try simp only [Act.put, List.getElem_toArray, List.getElem_cons_succ, List.getElem_cons_zero, List.setIfInBounds_toArray, List.set_cons_zero, List.set_cons_succ]
          refine wpHd_take (i := 1) (v := ?_) (by kernel_rfl) rfl (by kernel_rfl) (fun _ _ _ h => h) (Or.inl ⟨by rfl, ?_⟩) (by assumption) ?_
          rotate_left
          · intro w hSw; (try dsimp only at hSw); go_simp; (try with_reducible rfl)
          try simp only [Act.put, List.getElem_toArray, List.getElem_cons_succ, List.getElem_cons_zero, List.setIfInBounds_toArray, List.set_cons_zero, List.set_cons_succ]
          refine wpHd_take (i := 2) (v := ?_) (by kernel_rfl) rfl (by kernel_rfl) (fun _ _ _ h => h) (Or.inl ⟨by rfl, ?_⟩) (by assumption) ?_
          rotate_left
          · intro w hSw; (try dsimp only at hSw); go_simp; (try with_reducible rfl)
          try simp only [Act.put, List.getElem_toArray, List.getElem_cons_succ, List.getElem_cons_zero, List.setIfInBounds_toArray, List.set_cons_zero, List.set_cons_succ]
          refine wpHd_take (i := 3) (v := ?_) (by kernel_rfl) rfl (by kernel_rfl) (fun _ _ _ h => h) (Or.inl ⟨by rfl, ?_⟩) (by assumption) ?_
          rotate_left
          · intro w hSw; (try dsimp only at hSw); go_simp; (try with_reducible rfl)
          try simp only [Act.put, List.getElem_toArray, List.getElem_cons_succ, List.getElem_cons_zero, List.setIfInBounds_toArray, List.set_cons_zero, List.set_cons_succ]
          refine wpHd_take (i := 4) (v := stV (x1, x2)) (by kernel_rfl) rfl (by kernel_rfl) (fun _ _ _ h => h) (Or.inl ⟨by rfl, ?_⟩) (by assumption) ?_
          · intro w hSw; (try dsimp only at hSw); (try subst hSw); go_simp; (try rfl)
          try simp only [Act.put, List.getElem_toArray, List.getElem_cons_succ, List.getElem_cons_zero, List.setIfInBounds_toArray, List.set_cons_zero, List.set_cons_succ]
          refine wpHd_take (i := 5) (v := .bool false) (by kernel_rfl) rfl (by kernel_rfl) (fun _ _ _ h => h) (Or.inl ⟨by rfl, ?_⟩) (by assumption) ?_
          · intro w hSw; (try dsimp only at hSw); subst hSw; have hlk := HLK.out; go_simp; (try rfl)
          try simp only [Act.put, List.getElem_toArray, List.getElem_cons_succ, List.getElem_cons_zero, List.setIfInBounds_toArray, List.set_cons_zero, List.set_cons_succ]
          refine wpHd_take (i := 6) (v := ?_) (by kernel_rfl) rfl (by kernel_rfl) (fun _ _ _ h => h) (Or.inl ⟨by rfl, ?_⟩) (by assumption) ?_
          rotate_left
          · intro w hSw; (try dsimp only at hSw); go_simp; (try with_reducible rfl)
          try simp only [Act.put, List.getElem_toArray, List.getElem_cons_succ, List.getElem_cons_zero, List.setIfInBounds_toArray, List.set_cons_zero, List.set_cons_succ]
          refine wpHd_take (i := 7) (v := ?_) (by kernel_rfl) rfl (by kernel_rfl) (fun _ _ _ h => h) (Or.inl ⟨by rfl, ?_⟩) (by assumption) ?_
          rotate_left
          · intro w hSw; (try dsimp only at hSw); go_simp; (try with_reducible rfl)
          try simp only [Act.put, List.getElem_toArray, List.getElem_cons_succ, List.getElem_cons_zero, List.setIfInBounds_toArray, List.set_cons_zero, List.set_cons_succ]
          refine wpHd_take (i := 8) (v := ?_) (by kernel_rfl) rfl (by kernel_rfl) (fun _ _ _ h => h) (Or.inl ⟨by rfl, ?_⟩) (by assumption) ?_
          rotate_left
          · intro w hSw; (try dsimp only at hSw); go_simp; (try with_reducible rfl)
          try simp only [Act.put, List.getElem_toArray, List.getElem_cons_succ, List.getElem_cons_zero, List.setIfInBounds_toArray, List.set_cons_zero, List.set_cons_succ]
          refine wpHd_take (i := 9) (v := ?_) (by kernel_rfl) rfl (by kernel_rfl) (fun _ _ _ h => h) (Or.inl ⟨by rfl, ?_⟩) (by assumption) ?_
          rotate_left
          · intro w hSw; (try dsimp only at hSw); go_simp; (try with_reducible rfl)
          try simp only [Act.put, List.getElem_toArray, List.getElem_cons_succ, List.getElem_cons_zero, List.setIfInBounds_toArray, List.set_cons_zero, List.set_cons_succ]
          refine wpHd_take (i := 10) (v := ?_) (by kernel_rfl) rfl (by kernel_rfl) (fun _ _ _ h => h) (Or.inl ⟨by rfl, ?_⟩) (by assumption) ?_
          rotate_left
          · intro w hSw; (try dsimp only at hSw); go_simp; (try with_reducible rfl)
          try simp only [Act.put, List.getElem_toArray, List.getElem_cons_succ, List.getElem_cons_zero, List.setIfInBounds_toArray, List.set_cons_zero, List.set_cons_succ]
          refine wpHd_take (i := 11) (v := ?_) (by kernel_rfl) rfl (by kernel_rfl) (fun _ _ _ h => h) (Or.inl ⟨by rfl, ?_⟩) (by assumption) ?_
          rotate_left
          · intro w hSw; (try dsimp only at hSw); go_simp; (try with_reducible rfl)
          try simp only [Act.put, List.getElem_toArray, List.getElem_cons_succ, List.getElem_cons_zero, List.setIfInBounds_toArray, List.set_cons_zero, List.set_cons_succ]
          refine wpHd_end (by kernel_rfl) ?_
          clear hSS
          have HX3 := Lib.hid (show Box W2.drew xb 48 #[.int .u64 x1, .int .i64 x2] from HX2.out)
          have H3 := Lib.hid (H2.out.keep (Only.refl Non W2).drew)
          have HO3 := Lib.hid (HO2.out.drew)
          clear HX2 H2 HO2 ax ay c3 c4 HLK hsti
          generalize W2.drew = W3 at *
          go_upto_region 5 with fail
          have ax : W3.drew.cell? ⟨xb, 0, none⟩ = some (.int .u64 x1) := HX3.out.cellAt rfl
          have ay : W3.drew.cell? ⟨xb, 1, none⟩ = some (.int .i64 x2) := HX3.out.cellAt rfl
          have c3 : W3.drew.cell? ⟨sb, 3, none⟩ = some (.map (some mb)) := H3.out.box.cellAt rfl
          refine wp_region_tail (S := (fun w' : World => w' = W3.drew)) 5 (by kernel_rfl) (by kernel_rfl) ?_ ?_
          · rfl
          intro hSS
          refine wpHd_take (i := 0) (v := ?_) (by kernel_rfl) rfl (by kernel_rfl) (fun _ _ _ h => h) (Or.inl ⟨by rfl, ?_⟩) (by assumption) ?_
          rotate_left
          · intro w hSw; (try dsimp only at hSw); go_simp; (try with_reducible rfl)
          try simp only [Act.put, List.getElem_toArray, List.getElem_cons_succ, List.getElem_cons_zero, List.setIfInBounds_toArray, List.set_cons_zero, List.set_cons_succ]
          refine wpHd_take (i := 1) (v := ?_) (by kernel_rfl) rfl (by kernel_rfl) (fun _ _ _ h => h) (Or.inl ⟨by rfl, ?_⟩) (by assumption) ?_
          rotate_left
          · intro w hSw; (try dsimp only at hSw); go_simp; (try with_reducible rfl)
          try simp only [Act.put, List.getElem_toArray, List.getElem_cons_succ, List.getElem_cons_zero, List.setIfInBounds_toArray, List.set_cons_zero, List.set_cons_succ]
          refine wpHd_take (i := 2) (v := ?_) (by kernel_rfl) rfl (by kernel_rfl) (fun _ _ _ h => h) (Or.inl ⟨by rfl, ?_⟩) (by assumption) ?_
          rotate_left
          · intro w hSw; (try dsimp only at hSw); go_simp; (try with_reducible rfl)
          try simp only [Act.put, List.getElem_toArray, List.getElem_cons_succ, List.getElem_cons_zero, List.setIfInBounds_toArray, List.set_cons_zero, List.set_cons_succ]
          refine wpHd_take (i := 3) (v := ?_) (by kernel_rfl) rfl (by kernel_rfl) (fun _ _ _ h => h) (Or.inl ⟨by rfl, ?_⟩) (by assumption) ?_
          rotate_left
          · intro w hSw; (try dsimp only at hSw); go_simp; (try with_reducible rfl)
          try simp only [Act.put, List.getElem_toArray, List.getElem_cons_succ, List.getElem_cons_zero, List.setIfInBounds_toArray, List.set_cons_zero, List.set_cons_succ]
          refine wpHd_take (i := 4) (v := stV (x1, x2)) (by kernel_rfl) rfl (by kernel_rfl) (fun _ _ _ h => h) (Or.inl ⟨by rfl, ?_⟩) (by assumption) ?_
          · intro w hSw; (try dsimp only at hSw); (try subst hSw); go_simp; (try rfl)
          try simp only [Act.put, List.getElem_toArray, List.getElem_cons_succ, List.getElem_cons_zero, List.setIfInBounds_toArray, List.set_cons_zero, List.set_cons_succ]
          refine wpHd_end (by kernel_rfl) ?_
          clear hSS
          obtain ⟨W4, hrun, hmet4, ho4⟩ := run_put (show Met W3.drew mb s.1 from H3.out.met) HP.out Hmem.out
          go_upto_region 6 with fail
          have ho34 : Only (Just mb) W3 W4 := ((Only.refl (Just mb) W3).drew).trans ho4
          obtain ⟨h5, ho5, hb4⟩ := H3.out.step hmet4 ho34
          have H5 := Lib.hid h5
          have HO5 := Lib.hid (show Only (Two sb mb) w (W4.setCell ⟨sb, 4, none⟩ (.int .i64 ((s.2 + 1 : Nat) : Int))) from (HO3.out.mono (S' := Two sb mb) fun _ hb => hb.elim).trans ho5)
          have hxs : xb ≠ sb := fun e => by have := (hb4.same (e ▸ ho34.box HX3.out (H3.out.met.ne HX3.out))).1; exact absurd this (by decide)
          have hxm : xb ≠ mb := H3.out.met.ne HX3.out
          have HX5 := Lib.hid (ho5.box HX3.out (fun e => e.elim hxs hxm))
          have c4 : W4.cell? ⟨sb, 4, none⟩ = some (.int .i64 (s.2 : Nat)) := hb4.cellAt rfl
          have f4 : W4.frozen? ⟨sb, 4, none⟩ = false := hb4.free 4
          have hw4 : IntKind.i64.wrap (((s.2 : Nat) : Int) + 1) = ((s.2 + 1 : Nat) : Int) := by rw [IntKind.wrap_i64]; have := Hst.out; omega
          have Hxs := Lib.hid hxs
          have Hxm := Lib.hid hxm
          clear hrun hmet4 ho4 ho34 h5 ho5 hb4 hxs hxm ax ay c3 HX3 H3 HO3
          go_upto_region 7 with fail
          change Code.wp _ _ _ _ (W4.setCell ⟨sb, 4, none⟩ (.int .i64 ((s.2 + 1 : Nat) : Int)))
          generalize W4.setCell ⟨sb, 4, none⟩ (.int .i64 ((s.2 + 1 : Nat) : Int)) = W5 at *
          clear c4 f4 hw4
          have c1 : W5.cell? ⟨sb, 1, none⟩ = some (.slice B ps.length cc) := H5.out.box.cellAt rfl
          go_wp2_with fail
          clear c1
          go_loopw [43] (fun i wr => FmRel w0 sb mb A c l (.slice B ps.length cc) ps size f (x1, x2) R W5 i wr) (fun i _ => ps.length - (intOf i).toNat)
          case atStart => exact ⟨0, _, Nat.zero_le _, rfl, H5.out, HR.out.symm, Only.refl _ _⟩
          case round =>
            obtain ⟨k, s', hk, rfl, hs', hst', ho⟩ := hrel
            have HX6 := Lib.hid (ho.box HX5.out (fun e => e.elim Hxs.out Hxm.out))
            have H6 := Lib.hid hs'
            have HO6 := Lib.hid ho
            clear hs' ho
            by_cases hlt : k < ps.length
            · rw [range_drop hlt, loopD] at hst'
              have ax : wr.cell? ⟨xb, 0, none⟩ = some (.int .u64 x1) := HX6.out.cellAt rfl
              have ay : wr.cell? ⟨xb, 1, none⟩ = some (.int .i64 x2) := HX6.out.cellAt rfl
              have hki : (k : Int) < ps.length := by omega
              have HF := free_any H6.out (x1, x2) hx64 Hl.out k hlt
              by_cases hfr : freeD (osN l ps) size (x1, x2) k
              · rw [decide_eq_true hfr] at HF
                rw [if_pos hfr] at hst'
                have HF := Lib.hid HF
                have Hst := Lib.hid hst'
                have Hlt := Lib.hid hlt
                have Hfr := Lib.hid hfr
                clear hst' hlt hfr
                go_wp2_with fail
                refine HF.out.mono ?_
                rintro e W6 ⟨rfl, ho6⟩
                have HX7 := Lib.hid (ho6.box HX6.out id)
                have H7 := Lib.hid (H6.out.keep ho6)
                have HO7 := Lib.hid (HO6.out.transN ho6)
                clear ho6 ax ay HX6 H6 HO6 HF
                obtain ⟨p, hp, hpl, hos, B', cc', eav, g, o, eB, hc⟩ := H7.out.place Hlt.out
                injection eav with e1 _ e2
                subst e1
                subst eB
                clear e2
                obtain ⟨g', o', dA, dc, eA, hg', hcells, hby⟩ := H7.out.done.at_ p hpl
                subst eA
                have Hos := Lib.hid hos
                have Hp := Lib.hid hp
                have hc3 := hcells 3 (.bool (l.getD p default).write) rfl
                clear hos hby hcells hp
                generalize hod : l.getD p default = od at *
                clear hod
                have ax : W6.drew.cell? ⟨xb, 0, none⟩ = some (.int .u64 x1) := HX7.out.cellAt rfl
                have ay : W6.drew.cell? ⟨xb, 1, none⟩ = some (.int .i64 x2) := HX7.out.cellAt rfl
                have hbor : bits BinOp.or IntKind.u64 (x1 : Int) (2 ^ k) = ((x1 ||| 2 ^ k : Nat) : Int) := bit_or x1 k hx64 (by have := Hlt.out; omega)
                have hshl : IntKind.u64.wrap (2 ^ k) = 2 ^ k := wraps_u64_64 _ (by have : (0 : Int) ≤ ((2 ^ k : Nat) : Int) := Int.natCast_nonneg _; simpa using this) (by
                  have : (2 : Nat) ^ k < 2 ^ 64 := Nat.pow_lt_pow_right (by decide) (by have := Hlt.out; omega)
                  have h2 : ((2 ^ k : Nat) : Int) < ((2 ^ 64 : Nat) : Int) := by omega
                  simpa using h2)
                have hshl2 : (2 : Int) ^ k % 18446744073709551616 = 2 ^ k := by rw [← IntKind.wrap_u64]; exact hshl
                go_upto_region 11 with fail
                refine wp_region_tail (S := (fun w' : World => w'.cell? ⟨xb, 0, none⟩ = some (.int .u64 x1) ∧ w'.cell? ⟨xb, 1, none⟩ = some (.int .i64 x2))) 9 (by kernel_rfl) (by kernel_rfl) ?_ ?_
                · refine ⟨?_, ?_⟩ <;> first | assumption | (refine Only.cell ((Only.refl Non W6.drew).alloc _) ?_ id; assumption)
                intro hSS
                refine wpHd_take (i := 0) (v := ?_) (by kernel_rfl) rfl (by kernel_rfl) (fun _ _ _ h => h) (Or.inl ⟨by rfl, ?_⟩) (by assumption) ?_
                rotate_left
                · intro w hSw; (try dsimp only at hSw); go_simp; (try with_reducible rfl)
                try simp only [Act.put, List.getElem_toArray, List.getElem_cons_succ, List.getElem_cons_zero, List.setIfInBounds_toArray, List.set_cons_zero, List.set_cons_succ]
                refine wpHd_take (i := 1) (v := ?_) (by kernel_rfl) rfl (by kernel_rfl) (fun _ _ _ h => h) (Or.inl ⟨by rfl, ?_⟩) (by assumption) ?_
                rotate_left
                · intro w hSw; (try dsimp only at hSw); go_simp; (try with_reducible rfl)
                try simp only [Act.put, List.getElem_toArray, List.getElem_cons_succ, List.getElem_cons_zero, List.setIfInBounds_toArray, List.set_cons_zero, List.set_cons_succ]
                refine wpHd_take (i := 2) (v := ?_) (by kernel_rfl) rfl (by kernel_rfl) (fun _ _ _ h => h) (Or.inl ⟨by rfl, ?_⟩) (by assumption) ?_
                rotate_left
                · intro w hSw; (try dsimp only at hSw); go_simp; (try with_reducible rfl)
                try simp only [Act.put, List.getElem_toArray, List.getElem_cons_succ, List.getElem_cons_zero, List.setIfInBounds_toArray, List.set_cons_zero, List.set_cons_succ]
                refine wpHd_take (i := 3) (v := ?_) (by kernel_rfl) rfl (by kernel_rfl) (fun _ _ _ h => h) (Or.inl ⟨by rfl, ?_⟩) (by assumption) ?_
                rotate_left
                · intro w hSw; (try dsimp only at hSw); go_simp; (try with_reducible rfl)
                try simp only [Act.put, List.getElem_toArray, List.getElem_cons_succ, List.getElem_cons_zero, List.setIfInBounds_toArray, List.set_cons_zero, List.set_cons_succ]
                refine wpHd_take (i := 4) (v := .int .u64 ((x1 ||| 2 ^ k : Nat) : Int)) (by kernel_rfl) rfl (by kernel_rfl) (fun _ _ _ h => h) (Or.inl ⟨by rfl, ?_⟩) (by assumption) ?_
                · intro w hSw; (try dsimp only at hSw); go_simp; (try rfl)
                try simp only [Act.put, List.getElem_toArray, List.getElem_cons_succ, List.getElem_cons_zero, List.setIfInBounds_toArray, List.set_cons_zero, List.set_cons_succ]
                refine wpHd_take (i := 5) (v := ?_) (by kernel_rfl) rfl (by kernel_rfl) (fun _ _ _ h => h) (Or.inl ⟨by rfl, ?_⟩) (by assumption) ?_
                rotate_left
                · intro w hSw; (try dsimp only at hSw); go_simp; (try with_reducible rfl)
                try simp only [Act.put, List.getElem_toArray, List.getElem_cons_succ, List.getElem_cons_zero, List.setIfInBounds_toArray, List.set_cons_zero, List.set_cons_succ]
                refine wpHd_take (i := 6) (v := ?_) (by kernel_rfl) rfl (by kernel_rfl) (fun _ _ _ h => h) (Or.inl ⟨by rfl, ?_⟩) (by assumption) ?_
                rotate_left
                · intro w hSw; (try dsimp only at hSw); go_simp; (try with_reducible rfl)
                try simp only [Act.put, List.getElem_toArray, List.getElem_cons_succ, List.getElem_cons_zero, List.setIfInBounds_toArray, List.set_cons_zero, List.set_cons_succ]
                refine wpHd_take (i := 7) (v := stV (x1 ||| 2 ^ k, x2)) (by kernel_rfl) rfl (by kernel_rfl) (fun _ _ _ h => h) (Or.inl ⟨by rfl, ?_⟩) (by assumption) ?_
                · intro w hSw; (try dsimp only at hSw); go_simp; (try rfl)
                try simp only [Act.put, List.getElem_toArray, List.getElem_cons_succ, List.getElem_cons_zero, List.setIfInBounds_toArray, List.set_cons_zero, List.set_cons_succ]
                refine wpHd_one (i := 8) rfl (by kernel_rfl) (fun K hK => ?_)
                go_simp
                skip
                refine hK.out _ _ ?_ (fun hSS => ?_)
                · refine ⟨?_, ?_⟩ <;> first | assumption | (refine Only.cell ((Only.refl Non W6.drew).alloc _) ?_ id; assumption)
                clear hK
                try simp only [Act.put, List.getElem_toArray, List.getElem_cons_succ, List.getElem_cons_zero, List.setIfInBounds_toArray, List.set_cons_zero, List.set_cons_succ]
                refine wpHd_end (by kernel_rfl) ?_
                clear hSS hbor hshl hshl2
                go_upto_region 12 with (refine wpList_store_row rfl 48 _ _ rfl W6.heap.size #[.int .u64 ((x1 ||| 2 ^ k : Nat) : Int), .int .i64 x2] rfl rfl 48 _ (show Box (W6.drew.alloc (.cells #[.int .u64 0, .int .i64 0] 48)) W6.heap.size 48 #[.int .u64 0, .int .i64 0] from Box.fresh W6.drew 48 _) (by kernel_rfl) rfl (by simp [Value.oneCell']) ?_)
                have ho8 : Only Non W6 ((W6.drew.alloc (.cells #[.int .u64 0, .int .i64 0] 48)).setRow W6.heap.size #[.int .u64 ((x1 ||| 2 ^ k : Nat) : Int), .int .i64 x2]) := (((Only.refl Non W6).drew).alloc _).setRow' (.inr (Nat.le_refl _)) _
                have HN8 := Lib.hid (show Box ((W6.drew.alloc (.cells #[.int .u64 0, .int .i64 0] 48)).setRow W6.heap.size #[.int .u64 ((x1 ||| 2 ^ k : Nat) : Int), .int .i64 x2]) W6.heap.size 48 #[.int .u64 ((x1 ||| 2 ^ k : Nat) : Int), .int .i64 x2] from (Box.fresh W6.drew 48 #[.int .u64 0, .int .i64 0]).setRow' _)
                change Code.wp _ _ _ _ ((W6.drew.alloc (.cells #[.int .u64 0, .int .i64 0] 48)).setRow W6.heap.size #[.int .u64 ((x1 ||| 2 ^ k : Nat) : Int), .int .i64 x2])
                generalize (W6.drew.alloc (.cells #[.int .u64 0, .int .i64 0] 48)).setRow W6.heap.size #[.int .u64 ((x1 ||| 2 ^ k : Nat) : Int), .int .i64 x2] = W8 at *
                have Hnb0 := Lib.hid (show w.heap.size ≤ W6.heap.size from Nat.le_trans HO5.out.size HO7.out.size)
                have Hnbx := Lib.hid (show ¬ xb = W6.heap.size from fun e => by have := HX7.out.lt; omega)
                have Hnbs := Lib.hid (show W6.heap.size ≠ sb from fun e => by have := H7.out.box.lt; omega)
                have Hnbm := Lib.hid (show W6.heap.size ≠ mb from fun e => by have := H7.out.met.lt; omega)
                have Hnba := Lib.hid (show ¬ ownB (.slice (some ⟨g, o, none⟩) ps.length cc) W6.heap.size from fun hk => by have := (H7.out.at_.lt _ hk).2; omega)
                have Hnb5 := Lib.hid (show W5.heap.size ≤ W6.heap.size from HO7.out.size)
                have Hnbw := Lib.hid (show w0.heap.size ≤ W6.heap.size from H7.out.o.size)
                have HX8 := Lib.hid (ho8.box HX7.out id)
                have H8 := Lib.hid (H7.out.keep ho8)
                have HO8 := Lib.hid (HO7.out.transN ho8)
                have hc' : W8.cell? ⟨g, o + k, none⟩ = some (.int .i64 (p : Int)) := ho8.cell hc id
                have hw3 : W8.cell? ⟨g', o' + p * 10 + 3, none⟩ = some (.bool od.write) := ho8.cell hc3 id
                have c0 : W8.cell? ⟨sb, 0, none⟩ = some (.slice (some ⟨g', o', none⟩) l.length c) := H8.out.box.cellAt rfl
                have c1 : W8.cell? ⟨sb, 1, none⟩ = some (.slice (some ⟨g, o, none⟩) ps.length cc) := H8.out.box.cellAt rfl
                have hpi : (p : Int) < l.length := by omega
                clear ho8 ax ay hc hc3 HX7 H7 HO7
                generalize W6.heap.size = nb at *
                rcases hwq : od.write with _ | _
                · rw [hwq] at hw3
                  have Hwq := Lib.hid hwq
                  clear hwq
                  go_quiet (fail)
                  have ho9 : Only Non W8 (W8.drewN nq) := (Only.refl Non W8).drewN nq
                  have HN9 := Lib.hid (show Box (W8.drewN nq) nb 48 #[.int .u64 ((x1 ||| 2 ^ k : Nat) : Int), .int .i64 x2] from HN8.out)
                  have HX9 := Lib.hid (ho9.box HX8.out id)
                  have H9 := Lib.hid (H8.out.keep ho9)
                  have HO9 := Lib.hid (HO8.out.transN ho9)
                  have hc9 : (W8.drewN nq).cell? ⟨g, o + k, none⟩ = some (.int .i64 (p : Int)) := hc'
                  clear ho9 HN8 HX8 H8 HO8 hc' hw3 c0 c1
                  generalize W8.drewN nq = W9 at *
                  have hnx : nextD (osN l ps) (x1, x2) k = (x1 ||| 2 ^ k, x2) := by unfold nextD; rw [Hos.out, Hwq.out]; rfl
                  have hnb := next_bound (os := osN l ps) (x := (x1, x2)) (i := k) (by have := Hx.out; simpa using this) (by have := Hlt.out; simpa using this)
                  have hnl := next_lt (os := osN l ps) Hfr.out.1
                  rw [hnx] at hnb hnl
                  rw [show (osN l ps).length = ps.length from by simp] at hnb
                  dsimp only at hnb hnl
                  have HC := IH.out W9 (x1 ||| 2 ^ k, x2) s' H9.out hnb (by have := Hf.out; dsimp only; omega) (by dsimp only; have := Hl0.out; omega) (by dsimp only; have := Hl.out; have := Hlt.out; omega)
                  have hst := Hst.out
                  rw [hnx] at hst
                  have n0 : W9.cell? ⟨nb, 0, none⟩ = some (.int .u64 ((x1 ||| 2 ^ k : Nat) : Int)) := HN9.out.cellAt rfl
                  have n1 : W9.cell? ⟨nb, 1, none⟩ = some (.int .i64 x2) := HN9.out.cellAt rfl
                  clear hnx hnb hnl
                  rcases hq : fromD (osN l ps) size f (x1 ||| 2 ^ k, x2) s' with ⟨_ | lst, s2⟩
                  · rw [hq] at HC hst
                    have Hst2 := Lib.hid (show loopD (osN l ps) size (fromD (osN l ps) size f) (x1, x2) ((List.range ps.length).drop (k + 1)) s2 = R from hst)
                    have HC := Lib.hid HC
                    clear hq hst
                    go_wp2_with fail
                    refine HC.out.mono ?_
                    rintro e W11 ⟨lv, rfl, hown, hnew, hs11, ho11⟩
                    have H11 := Lib.hid hs11
                    have HO11 := Lib.hid (HO9.out.trans ho11)
                    clear hown hnew hs11 ho11 n0 n1
                    go_wp2
                    exact ⟨⟨k + 1, s2, Hlt.out, by simp, H11.out, Hst2.out, HO11.out⟩, by have := Hlt.out; simp [intOf]; omega⟩
                  · rw [hq] at HC hst
                    have HR := Lib.hid (show R = (some (lst ++ [k]), s2) from hst.symm)
                    have Hlen := Lib.hid (from_len (l := l) (ps := ps) hq)
                    have HC := Lib.hid HC
                    clear hq hst
                    go_wp2_with fail
                    refine HC.out.mono ?_
                    rintro e W11 ⟨lv, rfl, hown, hnew, hs11, ho11⟩
                    obtain ⟨Al, cl, rfl, hlc, hlm⟩ := hown.shape
                    generalize hln : (intsN (List.map (fun i => ps.getD i 0) (Option.getD (some lst, s2).fst []))).length = nl at *
                    have HLn := Lib.hid (show nl = lst.length by rw [← hln]; simp)
                    clear hln
                    have Hown := Lib.hid (show OwnInts 3 W11 w0.heap.size (.slice Al nl cl) (intsN (List.map (fun i => ps.getD i 0) lst)) from hown)
                    have Hnew := Lib.hid hnew
                    have H11 := Lib.hid hs11
                    have HO11 := Lib.hid (HO9.out.trans ho11)
                    have Hsz := Lib.hid (show W5.heap.size ≤ W9.heap.size from HO9.out.size)
                    have cp : W11.cell? ⟨g, o + k, none⟩ = some (.int .i64 (p : Int)) := ho11.cell hc9 (H11.out.av_two g (ownB_slice.2 rfl))
                    have c1 : W11.cell? ⟨sb, 1, none⟩ = some (.slice (some ⟨g, o, none⟩) ps.length cc) := H11.out.box.cellAt rfl
                    clear hown hnew hs11 ho11 n0 n1 hc9
                    go_wp2_with (first
                      | (at_builtin
                         refine wpList_push (W11.alloc (.cells #[.int .i64 (p : Int)] 3)) rfl _ _ 28 3 rfl intInfo rfl Try.underlying28 w0.heap.size (.slice Al nl cl) lst.length ((intsN (List.map (fun i => ps.getD i 0) lst)).map (Value.int .i64)) (.int .i64 (p : Int)) rfl (by have h := World.ownsRow.alloc Hown.out (.cells #[.int .i64 (p : Int)] 3); rwa [show (intsN (List.map (fun i => ps.getD i 0) lst)).length = lst.length by simp] at h) ⟨W11.heap.size, 0, none⟩ rfl ((Box.fresh W11 3 #[.int .i64 (p : Int)]).cellAt rfl) rfl (by have := Hlen.out; unfold maxLen; omega) (by have := Hlen.out; omega) (by have := H11.out.o.size; rw [World.size_alloc]; omega) ?_
                         intro v12 W12 hown12 ho12 hbl12)
                      | fail)
                    go_ret2
                    have hown11 := OwnInts.alloc Hown.out (.cells #[.int .i64 (p : Int)] 3)
                    have hfr : ∀ k', ownB (.slice Al nl cl) k' → w.heap.size ≤ k' := fun k' hk => by
                      have h1 := Hnew.out k' hk; have h2 := Hsz.out; have h3 := HO5.out.size; omega
                    have hsch := (H11.out.keep ((Only.refl Non W11).alloc (.cells #[.int .i64 (p : Int)] 3))).lst hown11 ho12 (fun k' hk hv => by
                      have h1 := Hnew.out k' hk; have h2 := (H9.out.at_.lt k' hv).2; omega)
                    refine ⟨v12, by rw [HR.out]; rfl, ?_, fun k' hk => ?_, by rw [HR.out]; exact hsch, ((HO5.out.trans HO11.out).alloc _).trans' ho12 fun b hb => .inr (hfr b hb)⟩
                    · rw [HR.out]
                      have e : intsN (List.map (fun i => ps.getD i 0) (lst ++ [k])) = intsN (List.map (fun i => ps.getD i 0) lst) ++ [(p : Int)] := by
                        unfold intsN
                        rw [List.map_append, List.map_append, Hp.out]; rfl
                      show OwnInts 3 W12 w0.heap.size v12 (intsN (List.map (fun i => ps.getD i 0) (lst ++ [k])))
                      rw [e]
                      unfold OwnInts
                      rw [List.length_append, List.map_append, show (intsN (List.map (fun i => ps.getD i 0) lst)).length = lst.length by simp]
                      exact hown12
                    · rcases hbl12 with e | e
                      · exact hfr k' (show (Value.slice Al nl cl).ownBlock = some k' from e ▸ hk)
                      · have hk : v12.ownBlock = some k' := hk
                        rw [e] at hk
                        injection hk with hk
                        have h1 := HO11.out.size; have h3 := HO5.out.size
                        rw [World.size_alloc] at hk
                        omega
                · rw [hwq] at hw3
                  have Hwq := Lib.hid hwq
                  clear hwq
                  go_quiet (fail)
                  have ho9 : Only Non W8 (W8.drewN nq) := (Only.refl Non W8).drewN nq
                  have HN9 := Lib.hid (show Box (W8.drewN nq) nb 48 #[.int .u64 ((x1 ||| 2 ^ k : Nat) : Int), .int .i64 x2] from HN8.out)
                  have HX9 := Lib.hid (ho9.box HX8.out id)
                  have H9 := Lib.hid (H8.out.keep ho9)
                  have HO9 := Lib.hid (HO8.out.transN ho9)
                  have hc9 : (W8.drewN nq).cell? ⟨g, o + k, none⟩ = some (.int .i64 (p : Int)) := hc'
                  clear ho9 HN8 HX8 H8 HO8 hc' hw3 c0 c1
                  generalize W8.drewN nq = W9 at *
                  have f1 : W9.frozen? ⟨nb, 1, none⟩ = false := HN9.out.free 1
                  have n1 : W9.cell? ⟨nb, 1, none⟩ = some (.int .i64 x2) := HN9.out.cellAt rfl
                  go_upto_region 14 with fail
                  have ho10 : Only (Just nb) W9 (W9.setCell ⟨nb, 1, none⟩ (.int .i64 (k : Int))) := (Only.refl (Just nb) W9).setCell (p := ⟨nb, 1, none⟩) (.inl rfl) _
                  have HN10 := Lib.hid (show Box (W9.setCell ⟨nb, 1, none⟩ (.int .i64 (k : Int))) nb 48 #[.int .u64 ((x1 ||| 2 ^ k : Nat) : Int), .int .i64 (k : Int)] from HN9.out.store 1 _)
                  have HX10 := Lib.hid (ho10.box HX9.out Hnbx.out)
                  have H10 := Lib.hid (H9.out.far ho10 Hnbw.out Hnbs.out Hnbm.out Hnba.out)
                  have HO10 := Lib.hid (HO9.out.trans' ho10 fun b hb => .inr (by have hb : b = nb := hb; have := Hnb5.out; omega))
                  have hc10 : (W9.setCell ⟨nb, 1, none⟩ (.int .i64 (k : Int))).cell? ⟨g, o + k, none⟩ = some (.int .i64 (p : Int)) := ho10.cell hc9 (fun e => Hnba.out (by have e : g = nb := e; rw [← e]; exact ownB_slice.2 rfl))
                  change Code.wp _ _ _ _ (W9.setCell ⟨nb, 1, none⟩ (.int .i64 (k : Int)))
                  clear ho10 f1 n1 HN9 HX9 H9 HO9 hc9
                  generalize W9.setCell ⟨nb, 1, none⟩ (.int .i64 (k : Int)) = W10 at *
                  have hnx : nextD (osN l ps) (x1, x2) k = (x1 ||| 2 ^ k, (k : Int)) := by unfold nextD; rw [Hos.out, Hwq.out]; rfl
                  have hnb := next_bound (os := osN l ps) (x := (x1, x2)) (i := k) (by have := Hx.out; simpa using this) (by have := Hlt.out; simpa using this)
                  have hnl := next_lt (os := osN l ps) Hfr.out.1
                  rw [hnx] at hnb hnl
                  rw [show (osN l ps).length = ps.length from by simp] at hnb
                  dsimp only at hnb hnl
                  have HC := IH.out W10 (x1 ||| 2 ^ k, (k : Int)) s' H10.out hnb (by have := Hf.out; dsimp only; omega) (by dsimp only; have := Hl0.out; omega) (by dsimp only; have := Hl.out; have := Hlt.out; omega)
                  have hst := Hst.out
                  rw [hnx] at hst
                  have n0 : W10.cell? ⟨nb, 0, none⟩ = some (.int .u64 ((x1 ||| 2 ^ k : Nat) : Int)) := HN10.out.cellAt rfl
                  have n1 : W10.cell? ⟨nb, 1, none⟩ = some (.int .i64 (k : Int)) := HN10.out.cellAt rfl
                  clear hnx hnb hnl
                  rcases hq : fromD (osN l ps) size f (x1 ||| 2 ^ k, (k : Int)) s' with ⟨_ | lst, s2⟩
                  · rw [hq] at HC hst
                    have Hst2 := Lib.hid (show loopD (osN l ps) size (fromD (osN l ps) size f) (x1, x2) ((List.range ps.length).drop (k + 1)) s2 = R from hst)
                    have HC := Lib.hid HC
                    clear hq hst
                    go_wp2_with fail
                    refine HC.out.mono ?_
                    rintro e W11 ⟨lv, rfl, hown, hnew, hs11, ho11⟩
                    have H11 := Lib.hid hs11
                    have HO11 := Lib.hid (HO10.out.trans ho11)
                    clear hown hnew hs11 ho11 n0 n1
                    go_wp2
                    exact ⟨⟨k + 1, s2, Hlt.out, by simp, H11.out, Hst2.out, HO11.out⟩, by have := Hlt.out; simp [intOf]; omega⟩
                  · rw [hq] at HC hst
                    have HR := Lib.hid (show R = (some (lst ++ [k]), s2) from hst.symm)
                    have Hlen := Lib.hid (from_len (l := l) (ps := ps) hq)
                    have HC := Lib.hid HC
                    clear hq hst
                    go_wp2_with fail
                    refine HC.out.mono ?_
                    rintro e W11 ⟨lv, rfl, hown, hnew, hs11, ho11⟩
                    obtain ⟨Al, cl, rfl, hlc, hlm⟩ := hown.shape
                    generalize hln : (intsN (List.map (fun i => ps.getD i 0) (Option.getD (some lst, s2).fst []))).length = nl at *
                    have HLn := Lib.hid (show nl = lst.length by rw [← hln]; simp)
                    clear hln
                    have Hown := Lib.hid (show OwnInts 3 W11 w0.heap.size (.slice Al nl cl) (intsN (List.map (fun i => ps.getD i 0) lst)) from hown)
                    have Hnew := Lib.hid hnew
                    have H11 := Lib.hid hs11
                    have HO11 := Lib.hid (HO10.out.trans ho11)
                    have Hsz := Lib.hid (show W5.heap.size ≤ W10.heap.size from HO10.out.size)
                    have cp : W11.cell? ⟨g, o + k, none⟩ = some (.int .i64 (p : Int)) := ho11.cell hc10 (H11.out.av_two g (ownB_slice.2 rfl))
                    have c1 : W11.cell? ⟨sb, 1, none⟩ = some (.slice (some ⟨g, o, none⟩) ps.length cc) := H11.out.box.cellAt rfl
                    clear hown hnew hs11 ho11 n0 n1 hc10
                    go_wp2_with (first
                      | (at_builtin
                         refine wpList_push (W11.alloc (.cells #[.int .i64 (p : Int)] 3)) rfl _ _ 28 3 rfl intInfo rfl Try.underlying28 w0.heap.size (.slice Al nl cl) lst.length ((intsN (List.map (fun i => ps.getD i 0) lst)).map (Value.int .i64)) (.int .i64 (p : Int)) rfl (by have h := World.ownsRow.alloc Hown.out (.cells #[.int .i64 (p : Int)] 3); rwa [show (intsN (List.map (fun i => ps.getD i 0) lst)).length = lst.length by simp] at h) ⟨W11.heap.size, 0, none⟩ rfl ((Box.fresh W11 3 #[.int .i64 (p : Int)]).cellAt rfl) rfl (by have := Hlen.out; unfold maxLen; omega) (by have := Hlen.out; omega) (by have := H11.out.o.size; rw [World.size_alloc]; omega) ?_
                         intro v12 W12 hown12 ho12 hbl12)
                      | fail)
                    go_ret2
                    have hown11 := OwnInts.alloc Hown.out (.cells #[.int .i64 (p : Int)] 3)
                    have hfr : ∀ k', ownB (.slice Al nl cl) k' → w.heap.size ≤ k' := fun k' hk => by
                      have h1 := Hnew.out k' hk; have h2 := Hsz.out; have h3 := HO5.out.size; omega
                    have hsch := (H11.out.keep ((Only.refl Non W11).alloc (.cells #[.int .i64 (p : Int)] 3))).lst hown11 ho12 (fun k' hk hv => by
                      have h1 := Hnew.out k' hk; have h2 := (H10.out.at_.lt k' hv).2; omega)
                    refine ⟨v12, by rw [HR.out]; rfl, ?_, fun k' hk => ?_, by rw [HR.out]; exact hsch, ((HO5.out.trans HO11.out).alloc _).trans' ho12 fun b hb => .inr (hfr b hb)⟩
                    · rw [HR.out]
                      have e : intsN (List.map (fun i => ps.getD i 0) (lst ++ [k])) = intsN (List.map (fun i => ps.getD i 0) lst) ++ [(p : Int)] := by
                        unfold intsN
                        rw [List.map_append, List.map_append, Hp.out]; rfl
                      show OwnInts 3 W12 w0.heap.size v12 (intsN (List.map (fun i => ps.getD i 0) (lst ++ [k])))
                      rw [e]
                      unfold OwnInts
                      rw [List.length_append, List.map_append, show (intsN (List.map (fun i => ps.getD i 0) lst)).length = lst.length by simp]
                      exact hown12
                    · rcases hbl12 with e | e
                      · exact hfr k' (show (Value.slice Al nl cl).ownBlock = some k' from e ▸ hk)
                      · have hk : v12.ownBlock = some k' := hk
                        rw [e] at hk
                        injection hk with hk
                        have h1 := HO11.out.size; have h3 := HO5.out.size
                        rw [World.size_alloc] at hk
                        omega
              · rw [decide_eq_false hfr] at HF
                rw [if_neg hfr] at hst'
                have HF := Lib.hid HF
                have Hst' := Lib.hid hst'
                have Hlt := Lib.hid hlt
                clear hst' hlt hfr
                go_wp2_with fail
                refine HF.out.mono ?_
                rintro e W6 ⟨rfl, ho6⟩
                have H7 := Lib.hid (H6.out.keep ho6)
                have HO7 := Lib.hid (HO6.out.transN ho6)
                clear ho6 ax ay
                go_wp2
                exact ⟨⟨k + 1, s', Hlt.out, by simp, H7.out, Hst'.out, HO7.out⟩, by have := Hlt.out; simp [intOf]; omega⟩
            · obtain rfl : k = ps.length := by omega
              have hR : R = (none, s') := by
                rw [← hst', List.drop_eq_nil_of_le (by simp)]; rfl
              have HR := Lib.hid hR
              clear hR hst' hlt
              go_wp2_with fail
              go_ret2
              exact ⟨.slice none 0 0, by rw [HR.out]; rfl, by rw [HR.out]; exact OwnInts.nil _ _ _, fun k hk => absurd hk ownB_none, by rw [HR.out]; exact H6.out, HO5.out.trans HO6.out⟩
end
end Go.Proofs.Ythfafegfooibmaa
