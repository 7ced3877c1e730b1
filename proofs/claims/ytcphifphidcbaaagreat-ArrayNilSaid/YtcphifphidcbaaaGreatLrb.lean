/- lru: Add, New. -/
import Derived.Test.YtcphifphidcbaaaGreatLru
import Derived.Test.YtcphifphidcbaaaGreatTail
namespace Go.Proofs.YtcphifphidcbaaaGreat
open Go.RowKit Go.ChangeShapes Go.WideShapes
set_option linter.unusedVariables false
set_option linter.unusedSimpArgs false
section
set_option maxHeartbeats 4000000
set_option maxRecDepth 100000
variable {p g eb cap : Nat} {L : List Int}
def AddPost (p g eb cap : Nat) (L : List Int) (b : Int) (w : World) (e : Ending) (w' : World) : Prop :=
  e = .returned (.tuple #[.int .i64 (lruAdd cap L b).2.1, .bool (lruAdd cap L b).2.2, .int .i64 0]) ∧ LruB w' p g eb cap (lruAdd cap L b).1 ∧ Only (Two g eb) w w'
theorem lru_add_in {n : Nat} (w : World) (h : LruB w p g eb cap L) (hb : (n : Int) ∈ L) : Calls Tryz.prog 240 #[.pointer (some ⟨p, 0, none⟩), .int .i64 n] w (AddPost p g eb cap L n w) := by
  have HU := Lib.hid (lru_use w h hb)
  have HA := Lib.hid (show lruAdd cap L n = ((n : Int) :: L.erase n, 0, false) from if_pos hb)
  clear h hb
  go_enter Tryz.func240, Tryz.ntmps240
  go_wp2_with (go_at_call 245; refine HU.out.mono ?_; rintro e W1 ⟨rfl, h1, h2⟩)
  go_ret3
  unfold AddPost
  rw [HA.out]
  exact ⟨rfl, h1, h2⟩
theorem lru_add_new {n : Nat} (w : World) (h : LruB w p g eb cap L) (hn : n < 64) (hl : L.length ≤ cap) (hb : (n : Int) ∉ L) : Calls Tryz.prog 240 #[.pointer (some ⟨p, 0, none⟩), .int .i64 n] w (AddPost p g eb cap L n w) := by
  have HU := Lib.hid (lru_use_no w h hb)
  have HF := front_ok (i := 0) w h.sp (by decide) hn
  rw [one_rem, one_front, List.erase_of_not_mem hb] at HF
  have HF := Lib.hid HF
  have hp : w.cell? ⟨p, 0, none⟩ = some (.pointer (some ⟨g, 0, none⟩)) := h.box.cellAt rfl
  have H := Lib.hid h
  have hc1 := h.c1
  have hc16 := h.c16
  have HB := Lib.hid hb
  clear h hb
  go_enter Tryz.func240, Tryz.ntmps240
  go_upto_region 8 with (first | (go_at_call 245; refine HU.out.mono ?_; rintro e W1 ⟨rfl, rfl⟩) | (go_at_call 115; refine HF.out.mono ?_; rintro e W1 ⟨rfl, h1, h2⟩))
  have HL1 := Lib.hid (H.out.step h2 h1)
  have HO1 := Lib.hid h2
  clear h1 h2 HU HF H hp
  have hd1 : LruB W1.drew p g eb cap (n :: L) := (HL1.out.only ((Only.refl Non W1).drew) id id id)
  have HD1 := Lib.hid hd1
  have hp : W1.cell? ⟨p, 0, none⟩ = some (.pointer (some ⟨g, 0, none⟩)) := HL1.out.box.cellAt rfl
  have hp1 : W1.cell? ⟨p, 1, none⟩ = some (.int .i64 cap) := HL1.out.box.cellAt rfl
  have hle := lru_len W1.drew hd1
  rw [List.length_cons] at hle
  have HLE := Lib.hid hle
  have HO2 := Lib.hid HO1.out.drew
  clear hle hd1 HO1 HL1
  by_cases hlt : L.length < cap
  · have HA := Lib.hid (show lruAdd cap L n = ((n : Int) :: L, 0, false) by unfold lruAdd; rw [if_neg HB.out, if_pos hlt])
    have hli : ((L.length + 1 : Nat) : Int) ≤ cap := by omega
    generalize L.length + 1 = k at *
    clear hlt hl
    refine wp_region_tail (S := (fun w' : World => w' = W1.drew)) 6 (by kernel_rfl) (by kernel_rfl) ?_ ?_
    · rfl
    intro hSS
    refine wpHd_take (i := 0) (v := ?_) (by kernel_rfl) rfl (by kernel_rfl) (fun _ _ _ h => h) (Or.inl ⟨by rfl, ?_⟩) (by assumption) ?_
    rotate_left
    · intro w hSw; (try dsimp only at hSw); go_simp; (try with_reducible rfl)
    try simp only [Act.put, List.getElem_toArray, List.getElem_cons_succ, List.getElem_cons_zero, List.setIfInBounds_toArray, List.set_cons_zero, List.set_cons_succ]
    refine wpHd_take (i := 2) (v := ?_) (by kernel_rfl) rfl (by kernel_rfl) (fun _ _ _ h => h) (Or.inl ⟨by rfl, ?_⟩) (by assumption) ?_
    rotate_left
    · intro w hSw; (try dsimp only at hSw); go_simp; (try with_reducible rfl)
    try simp only [Act.put, List.getElem_toArray, List.getElem_cons_succ, List.getElem_cons_zero, List.setIfInBounds_toArray, List.set_cons_zero, List.set_cons_succ]
    refine wpHd_take (i := 3) (v := ?_) (by kernel_rfl) rfl (by kernel_rfl) (fun _ _ _ h => h) (Or.inl ⟨by rfl, ?_⟩) (by assumption) ?_
    rotate_left
    · intro w hSw; (try dsimp only at hSw); go_simp; (try with_reducible rfl)
    try simp only [Act.put, List.getElem_toArray, List.getElem_cons_succ, List.getElem_cons_zero, List.setIfInBounds_toArray, List.set_cons_zero, List.set_cons_succ]
    refine wpHd_take (i := 4) (v := ?_) (by kernel_rfl) rfl (by kernel_rfl) (fun _ _ _ h => h) (Or.inl ⟨by rfl, ?_⟩) (by assumption) ?_
    rotate_left
    · intro w hSw; (try dsimp only at hSw); go_simp; (try with_reducible rfl)
    try simp only [Act.put, List.getElem_toArray, List.getElem_cons_succ, List.getElem_cons_zero, List.setIfInBounds_toArray, List.set_cons_zero, List.set_cons_succ]
    refine wpHd_take (i := 5) (v := ?_) (by kernel_rfl) rfl (by kernel_rfl) (fun _ _ _ h => h) (Or.inl ⟨by rfl, ?_⟩) (by assumption) ?_
    rotate_left
    · intro w hSw; (try dsimp only at hSw); go_simp; (try with_reducible rfl)
    try simp only [Act.put, List.getElem_toArray, List.getElem_cons_succ, List.getElem_cons_zero, List.setIfInBounds_toArray, List.set_cons_zero, List.set_cons_succ]
    refine wpHd_one (i := 1) rfl (by kernel_rfl) (fun K hK => ?_)
    go_simp
    refine HLE.out.mono ?_
    rintro e W9 ⟨rfl, rfl⟩
    refine hK.out _ _ ?_ (fun hSS => ?_)
    · rfl
    clear hK
    try simp only [Act.put, List.getElem_toArray, List.getElem_cons_succ, List.getElem_cons_zero, List.setIfInBounds_toArray, List.set_cons_zero, List.set_cons_succ]
    refine wpHd_end (by kernel_rfl) ?_
    clear hSS HLE hp1
    go_wp2
    go_ret3
    unfold AddPost
    rw [HA.out]
    exact ⟨rfl, HD1.out, HO2.out⟩
  · have hne : L ≠ [] := by rintro rfl; simp at hlt; omega
    have hne2 : one (n :: L) 0 ≠ [] := by simp [one]
    have HLA := last_any 0 W1.drew HD1.out.sp (by decide)
    rw [if_neg hne2, show one ((n : Int) :: L) 0 = (n : Int) :: L from rfl, lst_cons, if_neg hne] at HLA
    have HA := Lib.hid (show lruAdd cap L n = ((n : Int) :: L.erase (lst L), lst L, true) by unfold lruAdd; rw [if_neg HB.out, if_neg hlt])
    have hvm : lst L ∈ L := lst_mem (fun e => by
      have hrg := fun x hx => (HD1.out.sp.rng (i := 0) (b := x) hx).1
      have h3 := hrg (lst ((n : Int) :: L))
      rw [lst_cons, if_neg hne, e] at h3
      have : L.getLast hne ∈ L := List.getLast_mem hne
      have h4 := hrg (L.getLast hne) (List.mem_cons_of_mem _ this)
      have h5 : lst L = L.getLast hne := by unfold lst; rw [List.getLastD_eq_getLast?, List.getLast?_eq_some_getLast hne]; rfl
      omega)
    have hv0 := HD1.out.sp.rng (i := 0) (List.mem_cons_of_mem _ hvm)
    have hvn : lst L ≠ n := fun e => HB.out (e ▸ hvm)
    have her : ((n : Int) :: L).erase (lst L) = (n : Int) :: L.erase (lst L) := List.erase_cons_tail (by simpa using fun e => hvn e.symm)
    have hm2 : lst L ∈ one (n :: L) 0 := List.mem_cons_of_mem _ hvm
    generalize lst L = v at *
    obtain ⟨v, rfl⟩ := Int.eq_ofNat_of_zero_le hv0.1
    have HRM := remove_in (i := 0) W1.drew HD1.out.sp hm2
    rw [one_rem, her] at HRM
    have HRM := Lib.hid HRM
    have HLA := Lib.hid HLA
    have hli : ¬ ((L.length + 1 : Nat) : Int) ≤ cap := by omega
    generalize L.length + 1 = k at *
    clear hlt hl hne hne2 hvm hv0 hvn her hm2
    refine wp_region_tail (S := (fun w' : World => w' = W1.drew)) 6 (by kernel_rfl) (by kernel_rfl) ?_ ?_
    · rfl
    intro hSS
    refine wpHd_take (i := 0) (v := ?_) (by kernel_rfl) rfl (by kernel_rfl) (fun _ _ _ h => h) (Or.inl ⟨by rfl, ?_⟩) (by assumption) ?_
    rotate_left
    · intro w hSw; (try dsimp only at hSw); go_simp; (try with_reducible rfl)
    try simp only [Act.put, List.getElem_toArray, List.getElem_cons_succ, List.getElem_cons_zero, List.setIfInBounds_toArray, List.set_cons_zero, List.set_cons_succ]
    refine wpHd_take (i := 2) (v := ?_) (by kernel_rfl) rfl (by kernel_rfl) (fun _ _ _ h => h) (Or.inl ⟨by rfl, ?_⟩) (by assumption) ?_
    rotate_left
    · intro w hSw; (try dsimp only at hSw); go_simp; (try with_reducible rfl)
    try simp only [Act.put, List.getElem_toArray, List.getElem_cons_succ, List.getElem_cons_zero, List.setIfInBounds_toArray, List.set_cons_zero, List.set_cons_succ]
    refine wpHd_take (i := 3) (v := ?_) (by kernel_rfl) rfl (by kernel_rfl) (fun _ _ _ h => h) (Or.inl ⟨by rfl, ?_⟩) (by assumption) ?_
    rotate_left
    · intro w hSw; (try dsimp only at hSw); go_simp; (try with_reducible rfl)
    try simp only [Act.put, List.getElem_toArray, List.getElem_cons_succ, List.getElem_cons_zero, List.setIfInBounds_toArray, List.set_cons_zero, List.set_cons_succ]
    refine wpHd_take (i := 4) (v := ?_) (by kernel_rfl) rfl (by kernel_rfl) (fun _ _ _ h => h) (Or.inl ⟨by rfl, ?_⟩) (by assumption) ?_
    rotate_left
    · intro w hSw; (try dsimp only at hSw); go_simp; (try with_reducible rfl)
    try simp only [Act.put, List.getElem_toArray, List.getElem_cons_succ, List.getElem_cons_zero, List.setIfInBounds_toArray, List.set_cons_zero, List.set_cons_succ]
    refine wpHd_take (i := 5) (v := ?_) (by kernel_rfl) rfl (by kernel_rfl) (fun _ _ _ h => h) (Or.inl ⟨by rfl, ?_⟩) (by assumption) ?_
    rotate_left
    · intro w hSw; (try dsimp only at hSw); go_simp; (try with_reducible rfl)
    try simp only [Act.put, List.getElem_toArray, List.getElem_cons_succ, List.getElem_cons_zero, List.setIfInBounds_toArray, List.set_cons_zero, List.set_cons_succ]
    refine wpHd_one (i := 1) rfl (by kernel_rfl) (fun K hK => ?_)
    go_simp
    refine HLE.out.mono ?_
    rintro e W9 ⟨rfl, rfl⟩
    refine hK.out _ _ ?_ (fun hSS => ?_)
    · rfl
    clear hK
    try simp only [Act.put, List.getElem_toArray, List.getElem_cons_succ, List.getElem_cons_zero, List.setIfInBounds_toArray, List.set_cons_zero, List.set_cons_succ]
    refine wpHd_end (by kernel_rfl) ?_
    clear hSS HLE hp1
    have hp2 : W1.drew.cell? ⟨p, 0, none⟩ = some (.pointer (some ⟨g, 0, none⟩)) := hp
    clear hp
    generalize W1.drew = W2 at *
    go_wp2_with (first | (go_at_call 155; refine HLA.out.mono ?_; rintro e W3 ⟨rfl, rfl⟩) | (go_at_call 156; refine HRM.out.mono ?_; rintro e W4 ⟨rfl, h3, h4⟩))
    go_ret3
    unfold AddPost
    rw [HA.out]
    exact ⟨rfl, HD1.out.step h4 h3, HO2.out.trans h4⟩
theorem one_nil : one [] = fun _ => [] := by
  funext i
  unfold one
  split <;> rfl
theorem lru_new {cap : Nat} (w : World) (h1 : 1 ≤ cap) (h16 : cap ≤ 16) :
    Calls Tryz.prog 112 #[.int .i64 cap] w fun e w' => ∃ p g eb, e = .returned (.pointer (some ⟨p, 0, none⟩)) ∧ LruB w' p g eb cap [] ∧ w.heap.size ≤ p ∧ w.heap.size ≤ g ∧ w.heap.size ≤ eb ∧ Only Non w w' := by
  have HN := Lib.hid (show Calls Tryz.prog 84 #[.int .i64 1] w (NewPost 1 w) from new_any (m := 1) w (by decide) (by decide))
  have h2 : (cap : Int) ≤ 16 := by omega
  by_cases hc : cap ≤ 1
  · have hc3 : (cap : Int) ≤ 1 := by omega
    have e1 := Lib.hid (show (1 : Int) = cap by omega)
    go_enter Tryz.func112, Tryz.ntmps112
    go_wp2_with (go_at_call 84; refine HN.out.mono ?_; rintro e W1 ⟨g, eb, rfl, h3, h4, h5, h6⟩)
    go_ret
    refine ⟨W1.heap.size, g, eb, rfl, ⟨?_, by rw [one_nil]; exact h3.keep ((Only.refl Non W1).alloc _), h1, h16⟩, h6.size, h4, h5, h6.alloc _⟩
    rw [← e1.out]
    exact Box.fresh _ _ _
  · have hc3 : ¬ (cap : Int) ≤ 1 := by omega
    have hc4 : (1 : Int) ≤ cap := by omega
    go_enter Tryz.func112, Tryz.ntmps112
    go_wp2_with (go_at_call 84; refine HN.out.mono ?_; rintro e W1 ⟨g, eb, rfl, h3, h4, h5, h6⟩)
    go_ret
    exact ⟨W1.heap.size, g, eb, rfl, ⟨Box.fresh _ _ _, by rw [one_nil]; exact h3.keep ((Only.refl Non W1).alloc _), h1, h16⟩, h6.size, h4, h5, h6.alloc _⟩
end
end Go.Proofs.YtcphifphidcbaaaGreat
