/- Several texts, one behind the other: Lru Lrb Ord. -/
import Derived.Test.YtodephhlhdbeoaaGreatM14
import Derived.Handy
import Derived.Test.YtodephhlhdbeoaaGreatM7
namespace Go.Proofs.YtodephhlhdbeoaaGreat
open Go.RowKit Go.ChangeShapes Go.WideShapes
set_option linter.unusedVariables false
set_option linter.unusedSimpArgs false
def one (L : List Int) : Nat → List Int := fun i => if i = 0 then L else []
theorem one_rem (L : List Int) (b : Int) : remS (one L) b = one (L.erase b) := by
  funext i
  unfold remS one
  split <;> rfl
theorem one_front (L : List Int) (b : Int) : frontS (one L) 0 b = one (b :: L) := by
  funext i
  unfold frontS updN one
  split
  · rename_i e; subst e; rfl
  · rfl
theorem one_not {L : List Int} {b : Int} (h : b ∉ L) : ∀ i, b ∉ one L i := fun i hi => by
  unfold one at hi
  split at hi
  · exact h hi
  · cases hi
theorem SpB.nodup {w : World} {g eb m : Nat} {S : Nat → List Int} (h : SpB w g eb m S) (i : Nat) : (S i).Nodup := by
  obtain ⟨N, E, _, hr, _⟩ := h
  exact hr.nodup i
theorem SpB.rng {w : World} {g eb m : Nat} {S : Nat → List Int} (h : SpB w g eb m S) {i : Nat} {b : Int} (hb : b ∈ S i) : 0 ≤ b ∧ b < 64 := by
  obtain ⟨N, E, _, hr, _⟩ := h
  exact hr.rng hb
theorem SpB.lt1 {w : World} {g eb m : Nat} {S : Nat → List Int} (h : SpB w g eb m S) : g < w.heap.size ∧ eb < w.heap.size := by
  obtain ⟨N, E, hm, _⟩ := h
  exact ⟨hm.1.lt, hm.2.lt⟩
theorem SpB.off {w : World} {g eb m : Nat} {S : Nat → List Int} (h : SpB w g eb m S) {p : Nat} {t : TypeId} {cs : Array Value} (hb : Box w p t cs) (h1 : t ≠ 334) (h2 : t ≠ 336) : p ≠ g ∧ p ≠ eb := by
  obtain ⟨N, E, hm, _⟩ := h
  exact ⟨hb.off hm.1 h1, hb.off hm.2 h2⟩
structure LruB (w : World) (p g eb cap : Nat) (L : List Int) : Prop where
  box : Box w p 320 #[.pointer (some ⟨g, 0, none⟩), .int .i64 cap]
  sp : SpB w g eb 1 (one L)
  c1 : 1 ≤ cap
  c16 : cap ≤ 16
theorem LruB.only {w w' : World} {p g eb cap : Nat} {L : List Int} {F : Nat → Prop} (h : LruB w p g eb cap L) (ho : Only F w w') (h1 : ¬ F p) (h2 : ¬ F g) (h3 : ¬ F eb) : LruB w' p g eb cap L :=
  ⟨ho.box h.box h1, h.sp.only ho h2 h3, h.c1, h.c16⟩
theorem LruB.step {w w' : World} {p g eb cap : Nat} {L L' : List Int} (h : LruB w p g eb cap L) (ho : Only (Two g eb) w w') (hs : SpB w' g eb 1 (one L')) : LruB w' p g eb cap L' := by
  obtain ⟨h1, h2⟩ := h.sp.off h.box (by decide) (by decide)
  exact ⟨ho.box h.box (fun e => e.elim h1 h2), hs, h.c1, h.c16⟩
def lruAdd (cap : Nat) (L : List Int) (b : Int) : List Int × Int × Bool :=
  if b ∈ L then (b :: L.erase b, 0, false) else if L.length < cap then (b :: L, 0, false) else (b :: L.erase (lst L), lst L, true)
section
set_option maxHeartbeats 4000000
set_option maxRecDepth 100000
variable {p g eb cap : Nat} {L : List Int}
theorem lru_has (b : Int) (w : World) (h : LruB w p g eb cap L) :
    Calls Tryz.prog 368 #[.pointer (some ⟨p, 0, none⟩), .int .i64 b] w fun e w' => e = .returned (.bool (decide (b ∈ L))) ∧ w = w' := by
  have hp : w.cell? ⟨p, 0, none⟩ = some (.pointer (some ⟨g, 0, none⟩)) := h.box.cellAt rfl
  by_cases hb : b ∈ L
  · have HC := Lib.hid (of_in (i := 0) w h.sp hb)
    rw [decide_eq_true hb]
    clear h hb
    go_enter Tryz.func368, Tryz.ntmps368
    go_wp2_with (go_at_call 295; refine HC.out.mono ?_; rintro e W1 ⟨rfl, rfl⟩)
    go_ret
    exact ⟨rfl, rfl⟩
  · have HC := Lib.hid (of_no w h.sp (one_not hb))
    rw [decide_eq_false hb]
    clear h hb
    go_enter Tryz.func368, Tryz.ntmps368
    go_wp2_with (go_at_call 295; refine HC.out.mono ?_; rintro e W1 ⟨rfl, rfl⟩)
    go_ret
    exact ⟨rfl, rfl⟩
theorem lru_len (w : World) (h : LruB w p g eb cap L) : Calls Tryz.prog 369 #[.pointer (some ⟨p, 0, none⟩)] w fun e w' => e = .returned (.int .i64 L.length) ∧ w = w' := by
  have hp : w.cell? ⟨p, 0, none⟩ = some (.pointer (some ⟨g, 0, none⟩)) := h.box.cellAt rfl
  have HC := Lib.hid (len_any 0 w h.sp (by decide))
  clear h
  go_enter Tryz.func369, Tryz.ntmps369
  go_wp2_with (go_at_call 343; refine HC.out.mono ?_; rintro e W1 ⟨rfl, rfl⟩)
  go_ret
  exact ⟨rfl, rfl⟩
theorem lru_all (w : World) (h : LruB w p g eb cap L) : Calls Tryz.prog 367 #[.pointer (some ⟨p, 0, none⟩)] w fun e w' => ∃ v, e = .returned v ∧ OwnInts 3 w' w.heap.size v L ∧ Only Non w w' := by
  have hp : w.cell? ⟨p, 0, none⟩ = some (.pointer (some ⟨g, 0, none⟩)) := h.box.cellAt rfl
  have HC := Lib.hid (all_any (i := 0) w h.sp (by decide))
  clear h
  go_enter Tryz.func367, Tryz.ntmps367
  go_wp2_with (go_at_call 274; refine HC.out.mono ?_; rintro e W1 ⟨v, rfl, h1, h2⟩)
  go_ret
  exact ⟨v, rfl, h1, h2⟩
theorem lru_use_no {b : Int} (w : World) (h : LruB w p g eb cap L) (hb : b ∉ L) : Calls Tryz.prog 371 #[.pointer (some ⟨p, 0, none⟩), .int .i64 b] w fun e w' => e = .returned (.bool false) ∧ w = w' := by
  have HC := lru_has b w h
  rw [decide_eq_false hb] at HC
  have HC := Lib.hid HC
  clear h hb
  go_enter Tryz.func371, Tryz.ntmps371
  go_wp2_with (go_at_call 368; refine HC.out.mono ?_; rintro e W1 ⟨rfl, rfl⟩)
  go_ret
  exact ⟨rfl, rfl⟩
theorem lru_use {n : Nat} (w : World) (h : LruB w p g eb cap L) (hb : (n : Int) ∈ L) : Calls Tryz.prog 371 #[.pointer (some ⟨p, 0, none⟩), .int .i64 n] w fun e w' => e = .returned (.bool true) ∧ LruB w' p g eb cap (n :: L.erase n) ∧ Only (Two g eb) w w' := by
  have HC := lru_has (n : Int) w h
  rw [decide_eq_true hb] at HC
  have HC := Lib.hid HC
  have hn : n < 64 := by have := (h.sp.rng (i := 0) hb).2; omega
  have HF := front_ok (i := 0) w h.sp (by decide) hn
  rw [one_rem, one_front] at HF
  have HF := Lib.hid HF
  have hp : w.cell? ⟨p, 0, none⟩ = some (.pointer (some ⟨g, 0, none⟩)) := h.box.cellAt rfl
  have H := Lib.hid h
  clear h hb
  go_enter Tryz.func371, Tryz.ntmps371
  go_wp2_with (first | (go_at_call 368; refine HC.out.mono ?_; rintro e W1 ⟨rfl, rfl⟩) | (go_at_call 226; refine HF.out.mono ?_; rintro e W1 ⟨rfl, h1, h2⟩))
  go_ret
  exact ⟨rfl, H.out.step h2 h1, h2⟩
theorem lru_rem_no {b : Int} (w : World) (h : LruB w p g eb cap L) (hb : b ∉ L) : Calls Tryz.prog 370 #[.pointer (some ⟨p, 0, none⟩), .int .i64 b] w fun e w' => e = .returned (.bool false) ∧ w = w' := by
  have HC := lru_has b w h
  rw [decide_eq_false hb] at HC
  have HC := Lib.hid HC
  clear h hb
  go_enter Tryz.func370, Tryz.ntmps370
  go_wp2_with (go_at_call 368; refine HC.out.mono ?_; rintro e W1 ⟨rfl, rfl⟩)
  go_ret
  exact ⟨rfl, rfl⟩
theorem lru_rem {n : Nat} (w : World) (h : LruB w p g eb cap L) (hb : (n : Int) ∈ L) : Calls Tryz.prog 370 #[.pointer (some ⟨p, 0, none⟩), .int .i64 n] w fun e w' => e = .returned (.bool true) ∧ LruB w' p g eb cap (L.erase n) ∧ Only (Two g eb) w w' := by
  have HC := lru_has (n : Int) w h
  rw [decide_eq_true hb] at HC
  have HC := Lib.hid HC
  have HF := remove_in (i := 0) w h.sp hb
  rw [one_rem] at HF
  have HF := Lib.hid HF
  have hp : w.cell? ⟨p, 0, none⟩ = some (.pointer (some ⟨g, 0, none⟩)) := h.box.cellAt rfl
  have H := Lib.hid h
  clear h hb
  go_enter Tryz.func370, Tryz.ntmps370
  go_wp2_with (first | (go_at_call 368; refine HC.out.mono ?_; rintro e W1 ⟨rfl, rfl⟩) | (go_at_call 276; refine HF.out.mono ?_; rintro e W1 ⟨rfl, h1, h2⟩))
  go_ret
  exact ⟨rfl, H.out.step h2 h1, h2⟩
end
section
set_option maxHeartbeats 4000000
set_option maxRecDepth 100000
variable {p g eb cap : Nat} {L : List Int}
def AddPost (p g eb cap : Nat) (L : List Int) (b : Int) (w : World) (e : Ending) (w' : World) : Prop :=
  e = .returned (.tuple #[.int .i64 (lruAdd cap L b).2.1, .bool (lruAdd cap L b).2.2, .int .i64 0]) ∧ LruB w' p g eb cap (lruAdd cap L b).1 ∧ Only (Two g eb) w w'
theorem lru_add_in {n : Nat} (w : World) (h : LruB w p g eb cap L) (hb : (n : Int) ∈ L) : Calls Tryz.prog 366 #[.pointer (some ⟨p, 0, none⟩), .int .i64 n] w (AddPost p g eb cap L n w) := by
  have HU := Lib.hid (lru_use w h hb)
  have HA := Lib.hid (show lruAdd cap L n = ((n : Int) :: L.erase n, 0, false) from if_pos hb)
  clear h hb
  go_enter Tryz.func366, Tryz.ntmps366
  go_wp2_with (go_at_call 371; refine HU.out.mono ?_; rintro e W1 ⟨rfl, h1, h2⟩)
  go_ret3
  unfold AddPost
  rw [HA.out]
  exact ⟨rfl, h1, h2⟩
theorem lru_add_new {n : Nat} (w : World) (h : LruB w p g eb cap L) (hn : n < 64) (hl : L.length ≤ cap) (hb : (n : Int) ∉ L) : Calls Tryz.prog 366 #[.pointer (some ⟨p, 0, none⟩), .int .i64 n] w (AddPost p g eb cap L n w) := by
  have HU := Lib.hid (lru_use_no w h hb)
  have HF := front_ok (i := 0) w h.sp (by decide) hn
  rw [one_rem, one_front, List.erase_of_not_mem hb] at HF
  have HF := Lib.hid HF
  have hp : w.cell? ⟨p, 0, none⟩ = some (.pointer (some ⟨g, 0, none⟩)) := h.box.cellAt rfl
  have H := Lib.hid h
  have hc1 := h.c1
  have hc16 := h.c16
  have HB := Lib.hid hb
  clear h hb
  go_enter Tryz.func366, Tryz.ntmps366
  go_upto_region 8 with (first | (go_at_call 371; refine HU.out.mono ?_; rintro e W1 ⟨rfl, rfl⟩) | (go_at_call 226; refine HF.out.mono ?_; rintro e W1 ⟨rfl, h1, h2⟩))
  have HL1 := Lib.hid (H.out.step h2 h1)
  have HO1 := Lib.hid h2
  clear h1 h2 HU HF H hp
  have hd1 : LruB W1.drew p g eb cap (n :: L) := (HL1.out.only ((Only.refl Non W1).drew) id id id)
  have HD1 := Lib.hid hd1
  have hp : W1.cell? ⟨p, 0, none⟩ = some (.pointer (some ⟨g, 0, none⟩)) := HL1.out.box.cellAt rfl
  have hp1 : W1.cell? ⟨p, 1, none⟩ = some (.int .i64 cap) := HL1.out.box.cellAt rfl
  have hle := lru_len W1.drew hd1
  rw [List.length_cons] at hle
  have HLE := Lib.hid hle
  have HO2 := Lib.hid HO1.out.drew
  clear hle hd1 HO1 HL1
  by_cases hlt : L.length < cap
  · have HA := Lib.hid (show lruAdd cap L n = ((n : Int) :: L, 0, false) by unfold lruAdd; rw [if_neg HB.out, if_pos hlt])
    have hli : ((L.length + 1 : Nat) : Int) ≤ cap := by omega
    generalize L.length + 1 = k at *
    clear hlt hl
    refine wp_region_tail (S := (fun w' : World => w' = W1.drew)) 6 (by kernel_rfl) (by kernel_rfl) ?_ ?_
    · rfl
    intro hSS
    refine wpHd_take (i := 0) (v := ?_) (by kernel_rfl) rfl (by kernel_rfl) (fun _ _ _ h => h) (.inl ⟨by rfl, ?_⟩) hSS ?_
    rotate_left
    · intro w hSw; (try dsimp only at hSw); go_simp; (try with_reducible rfl)
    refine wpHd_take (i := 2) (v := ?_) (by kernel_rfl) rfl (by kernel_rfl) (fun _ _ _ h => h) (.inl ⟨by rfl, ?_⟩) hSS ?_
    rotate_left
    · intro w hSw; (try dsimp only at hSw); go_simp; (try with_reducible rfl)
    refine wpHd_take (i := 3) (v := ?_) (by kernel_rfl) rfl (by kernel_rfl) (fun _ _ _ h => h) (.inl ⟨by rfl, ?_⟩) hSS ?_
    rotate_left
    · intro w hSw; (try dsimp only at hSw); go_simp; (try with_reducible rfl)
    refine wpHd_take (i := 4) (v := ?_) (by kernel_rfl) rfl (by kernel_rfl) (fun _ _ _ h => h) (.inl ⟨by rfl, ?_⟩) hSS ?_
    rotate_left
    · intro w hSw; (try dsimp only at hSw); go_simp; (try with_reducible rfl)
    refine wpHd_take (i := 5) (v := ?_) (by kernel_rfl) rfl (by kernel_rfl) (fun _ _ _ h => h) (.inl ⟨by rfl, ?_⟩) hSS ?_
    rotate_left
    · intro w hSw; (try dsimp only at hSw); go_simp; (try with_reducible rfl)
    try simp only [Act.put, List.getElem_toArray, List.getElem_cons_succ, List.getElem_cons_zero, List.setIfInBounds_toArray, List.set_cons_zero, List.set_cons_succ]
    refine wpHd_one (i := 1) rfl (by kernel_rfl) (fun K hK => ?_)
    go_simp
    refine HLE.out.mono ?_
    rintro e W9 ⟨rfl, rfl⟩
    refine hK.out _ _ ?_ (fun hSS => ?_)
    · rfl
    clear hK
    try simp only [Act.put, List.getElem_toArray, List.getElem_cons_succ, List.getElem_cons_zero, List.setIfInBounds_toArray, List.set_cons_zero, List.set_cons_succ]
    refine wpHd_end (by kernel_rfl) ?_
    clear hSS HLE hp1
    go_wp2
    go_ret3
    unfold AddPost
    rw [HA.out]
    exact ⟨rfl, HD1.out, HO2.out⟩
  · have hne : L ≠ [] := by rintro rfl; simp at hlt; omega
    have hne2 : one (n :: L) 0 ≠ [] := by simp [one]
    have HLA := last_any 0 W1.drew HD1.out.sp (by decide)
    rw [if_neg hne2, show one ((n : Int) :: L) 0 = (n : Int) :: L from rfl, lst_cons, if_neg hne] at HLA
    have HA := Lib.hid (show lruAdd cap L n = ((n : Int) :: L.erase (lst L), lst L, true) by unfold lruAdd; rw [if_neg HB.out, if_neg hlt])
    have hvm : lst L ∈ L := lst_mem (fun e => by
      have hrg := fun x hx => (HD1.out.sp.rng (i := 0) (b := x) hx).1
      have h3 := hrg (lst ((n : Int) :: L))
      rw [lst_cons, if_neg hne, e] at h3
      have : L.getLast hne ∈ L := List.getLast_mem hne
      have h4 := hrg (L.getLast hne) (List.mem_cons_of_mem _ this)
      have h5 : lst L = L.getLast hne := by unfold lst; rw [List.getLastD_eq_getLast?, List.getLast?_eq_some_getLast hne]; rfl
      omega)
    have hv0 := HD1.out.sp.rng (i := 0) (List.mem_cons_of_mem _ hvm)
    have hvn : lst L ≠ n := fun e => HB.out (e ▸ hvm)
    have her : ((n : Int) :: L).erase (lst L) = (n : Int) :: L.erase (lst L) := List.erase_cons_tail (by simpa using fun e => hvn e.symm)
    have hm2 : lst L ∈ one (n :: L) 0 := List.mem_cons_of_mem _ hvm
    generalize lst L = v at *
    obtain ⟨v, rfl⟩ := Int.eq_ofNat_of_zero_le hv0.1
    have HRM := remove_in (i := 0) W1.drew HD1.out.sp hm2
    rw [one_rem, her] at HRM
    have HRM := Lib.hid HRM
    have HLA := Lib.hid HLA
    have hli : ¬ ((L.length + 1 : Nat) : Int) ≤ cap := by omega
    generalize L.length + 1 = k at *
    clear hlt hl hne hne2 hvm hv0 hvn her hm2
    refine wp_region_tail (S := (fun w' : World => w' = W1.drew)) 6 (by kernel_rfl) (by kernel_rfl) ?_ ?_
    · rfl
    intro hSS
    refine wpHd_take (i := 0) (v := ?_) (by kernel_rfl) rfl (by kernel_rfl) (fun _ _ _ h => h) (.inl ⟨by rfl, ?_⟩) hSS ?_
    rotate_left
    · intro w hSw; (try dsimp only at hSw); go_simp; (try with_reducible rfl)
    refine wpHd_take (i := 2) (v := ?_) (by kernel_rfl) rfl (by kernel_rfl) (fun _ _ _ h => h) (.inl ⟨by rfl, ?_⟩) hSS ?_
    rotate_left
    · intro w hSw; (try dsimp only at hSw); go_simp; (try with_reducible rfl)
    refine wpHd_take (i := 3) (v := ?_) (by kernel_rfl) rfl (by kernel_rfl) (fun _ _ _ h => h) (.inl ⟨by rfl, ?_⟩) hSS ?_
    rotate_left
    · intro w hSw; (try dsimp only at hSw); go_simp; (try with_reducible rfl)
    refine wpHd_take (i := 4) (v := ?_) (by kernel_rfl) rfl (by kernel_rfl) (fun _ _ _ h => h) (.inl ⟨by rfl, ?_⟩) hSS ?_
    rotate_left
    · intro w hSw; (try dsimp only at hSw); go_simp; (try with_reducible rfl)
    refine wpHd_take (i := 5) (v := ?_) (by kernel_rfl) rfl (by kernel_rfl) (fun _ _ _ h => h) (.inl ⟨by rfl, ?_⟩) hSS ?_
    rotate_left
    · intro w hSw; (try dsimp only at hSw); go_simp; (try with_reducible rfl)
    try simp only [Act.put, List.getElem_toArray, List.getElem_cons_succ, List.getElem_cons_zero, List.setIfInBounds_toArray, List.set_cons_zero, List.set_cons_succ]
    refine wpHd_one (i := 1) rfl (by kernel_rfl) (fun K hK => ?_)
    go_simp
    refine HLE.out.mono ?_
    rintro e W9 ⟨rfl, rfl⟩
    refine hK.out _ _ ?_ (fun hSS => ?_)
    · rfl
    clear hK
    try simp only [Act.put, List.getElem_toArray, List.getElem_cons_succ, List.getElem_cons_zero, List.setIfInBounds_toArray, List.set_cons_zero, List.set_cons_succ]
    refine wpHd_end (by kernel_rfl) ?_
    clear hSS HLE hp1
    have hp2 : W1.drew.cell? ⟨p, 0, none⟩ = some (.pointer (some ⟨g, 0, none⟩)) := hp
    clear hp
    generalize W1.drew = W2 at *
    go_wp2_with (first | (go_at_call 275; refine HLA.out.mono ?_; rintro e W3 ⟨rfl, rfl⟩) | (go_at_call 276; refine HRM.out.mono ?_; rintro e W4 ⟨rfl, h3, h4⟩))
    go_ret3
    unfold AddPost
    rw [HA.out]
    exact ⟨rfl, HD1.out.step h4 h3, HO2.out.trans h4⟩
theorem one_nil : one [] = fun _ => [] := by
  funext i
  unfold one
  split <;> rfl
theorem lru_new {cap : Nat} (w : World) (h1 : 1 ≤ cap) (h16 : cap ≤ 16) :
    Calls Tryz.prog 159 #[.int .i64 cap] w fun e w' => ∃ p g eb, e = .returned (.pointer (some ⟨p, 0, none⟩)) ∧ LruB w' p g eb cap [] ∧ w.heap.size ≤ p ∧ w.heap.size ≤ g ∧ w.heap.size ≤ eb ∧ Only Non w w' := by
  have HN := Lib.hid (show Calls Tryz.prog 165 #[.int .i64 1] w (NewPost 1 w) from new_any (m := 1) w (by decide) (by decide))
  have h2 : (cap : Int) ≤ 16 := by omega
  by_cases hc : cap ≤ 1
  · have hc3 : (cap : Int) ≤ 1 := by omega
    have e1 := Lib.hid (show (1 : Int) = cap by omega)
    go_enter Tryz.func159, Tryz.ntmps159
    go_wp2_with (go_at_call 165; refine HN.out.mono ?_; rintro e W1 ⟨g, eb, rfl, h3, h4, h5, h6⟩)
    go_ret
    refine ⟨W1.heap.size, g, eb, rfl, ⟨?_, by rw [one_nil]; exact h3.keep ((Only.refl Non W1).alloc _), h1, h16⟩, h6.size, h4, h5, h6.alloc _⟩
    rw [← e1.out]
    exact Box.fresh _ _ _
  · have hc3 : ¬ (cap : Int) ≤ 1 := by omega
    have hc4 : (1 : Int) ≤ cap := by omega
    go_enter Tryz.func159, Tryz.ntmps159
    go_wp2_with (go_at_call 165; refine HN.out.mono ?_; rintro e W1 ⟨g, eb, rfl, h3, h4, h5, h6⟩)
    go_ret
    exact ⟨W1.heap.size, g, eb, rfl, ⟨Box.fresh _ _ _, by rw [one_nil]; exact h3.keep ((Only.refl Non W1).alloc _), h1, h16⟩, h6.size, h4, h5, h6.alloc _⟩
end
structure Disp (t : TypeId) (x : Value) (name : String) (f : Nat) : Prop where
  m : ∀ w, (method 524 t x name).run Tryz.prog w = .ok (f, x) w
  e : ∀ args w, (callFunc f args).run Tryz.prog w = .ok (.enter f args) w
structure OFn where
  has : Nat
  use : Nat
  add : Nat
  rem : Nat
  all : Nat
  len : Nat
structure OSpec (σ : Type) where
  all : σ → List Int
  use : σ → Int → σ
  add : σ → Int → σ × Int × Bool
  rem : σ → Int → σ
  age : σ → Nat
  takes : Int → Prop
def maxAge : Nat := 1000000000
structure OrdC {σ : Type} (sp : OSpec σ) (t : TypeId) (x : Value) (fn : OFn) (F : Nat → Prop) (R : σ → World → Prop) : Prop where
  dhas : Disp t x "Has" fn.has
  duse : Disp t x "Use" fn.use
  dadd : Disp t x "Add" fn.add
  drem : Disp t x "Remove" fn.rem
  dall : Disp t x "All" fn.all
  dlen : Disp t x "Len" fn.len
  ptr : ∃ p, x = .pointer (some ⟨p, 0, none⟩) ∧ F p
  only : ∀ {s w w'} {S : Nat → Prop}, R s w → Only S w w' → (∀ k, F k → ¬ S k) → R s w'
  lt : ∀ {s w}, R s w → ∀ k, F k → k < w.heap.size
  has : ∀ {s w} (b : Int), R s w → Calls Tryz.prog fn.has #[x, .int .i64 b] w fun e w' => e = .returned (.bool (decide (b ∈ sp.all s))) ∧ Only Non w w'
  len : ∀ {s w}, R s w → Calls Tryz.prog fn.len #[x] w fun e w' => e = .returned (.int .i64 (sp.all s).length) ∧ Only Non w w'
  all : ∀ {s w}, R s w → Calls Tryz.prog fn.all #[x] w fun e w' => ∃ v, e = .returned v ∧ OwnInts 3 w' w.heap.size v (sp.all s) ∧ Only Non w w'
  use : ∀ {s w} {b : Int}, R s w → b ∈ sp.all s → sp.age s < maxAge → Calls Tryz.prog fn.use #[x, .int .i64 b] w fun e w' => e = .returned (.bool true) ∧ R (sp.use s b) w' ∧ Only F w w'
  add : ∀ {s w} {b : Int}, R s w → 0 ≤ b → b < 64 → sp.takes b → sp.age s < maxAge →
    Calls Tryz.prog fn.add #[x, .int .i64 b] w fun e w' => e = .returned (.tuple #[.int .i64 (sp.add s b).2.1, .bool (sp.add s b).2.2, .int .i64 0]) ∧ R (sp.add s b).1 w' ∧ Only F w w'
  rem : ∀ {s w} {b : Int}, R s w → b ∈ sp.all s → Calls Tryz.prog fn.rem #[x, .int .i64 b] w fun e w' => e = .returned (.bool true) ∧ R (sp.rem s b) w' ∧ Only F w w'
  rng : ∀ {s w} {b : Int}, R s w → b ∈ sp.all s → 0 ≤ b ∧ b < 64
  nodup : ∀ {s w}, R s w → (sp.all s).Nodup
  addL : ∀ {s w} {b : Int}, R s w → 0 ≤ b → b < 64 → sp.takes b →
    ((sp.add s b).2.2 = false ∧ (sp.add s b).2.1 = 0 ∧ ∀ y, y ∈ sp.all (sp.add s b).1 ↔ y = b ∨ y ∈ sp.all s) ∨
    ((sp.add s b).2.2 = true ∧ (sp.add s b).2.1 ∈ sp.all s ∧ b ∉ sp.all s ∧ ∀ y, y ∈ sp.all (sp.add s b).1 ↔ y = b ∨ (y ∈ sp.all s ∧ y ≠ (sp.add s b).2.1))
  useL : ∀ {s w} {b : Int}, R s w → b ∈ sp.all s → ∀ y, y ∈ sp.all (sp.use s b) ↔ y ∈ sp.all s
  remL : ∀ {s w} {b : Int}, R s w → b ∈ sp.all s → ∀ y, y ∈ sp.all (sp.rem s b) ↔ y ∈ sp.all s ∧ y ≠ b
  ageU : ∀ s b, sp.age (sp.use s b) ≤ sp.age s + 1
  ageA : ∀ s b, sp.age (sp.add s b).1 ≤ sp.age s + 1
  ageR : ∀ s b, sp.age (sp.rem s b) ≤ sp.age s
def lruSp (cap : Nat) : OSpec (List Int) := ⟨fun L => L, fun L b => b :: L.erase b, lruAdd cap, fun L b => L.erase b, fun _ => 0, fun _ => True⟩
def lruFn : OFn := ⟨368, 371, 366, 370, 367, 369⟩
def Tri (p g eb : Nat) : Nat → Prop := fun k => k = p ∨ k = g ∨ k = eb
def lruR (p g eb cap : Nat) (L : List Int) (w : World) : Prop := LruB w p g eb cap L ∧ L.length ≤ cap
theorem lst_mem' {L : List Int} (h : L ≠ []) : lst L ∈ L := by
  cases L with
  | nil => exact absurd rfl h
  | cons a L =>
    clear h
    induction L generalizing a with
    | nil => exact List.mem_cons_self ..
    | cons c L ih =>
      rw [lst_cons, if_neg (by simp)]
      exact List.mem_cons_of_mem _ (ih c)
theorem lruAdd_mem {cap : Nat} {L : List Int} {b : Int} (hn : L.Nodup) (h1 : 1 ≤ cap) :
    ((lruAdd cap L b).2.2 = false ∧ (lruAdd cap L b).2.1 = 0 ∧ ∀ y, y ∈ (lruAdd cap L b).1 ↔ y = b ∨ y ∈ L) ∨
    ((lruAdd cap L b).2.2 = true ∧ (lruAdd cap L b).2.1 ∈ L ∧ b ∉ L ∧ ∀ y, y ∈ (lruAdd cap L b).1 ↔ y = b ∨ (y ∈ L ∧ y ≠ (lruAdd cap L b).2.1)) := by
  unfold lruAdd
  by_cases hb : b ∈ L
  · rw [if_pos hb]
    refine .inl ⟨rfl, rfl, fun y => ?_⟩
    rw [List.mem_cons, hn.mem_erase_iff]
    exact ⟨fun h => h.imp id fun h => h.2, fun h => by
      by_cases e : y = b
      · exact .inl e
      · exact .inr ⟨e, h.resolve_left e⟩⟩
  · rw [if_neg hb]
    split
    · exact .inl ⟨rfl, rfl, fun y => List.mem_cons⟩
    · rename_i h2
      have hne : L ≠ [] := by rintro rfl; simp at h2; omega
      refine .inr ⟨rfl, lst_mem' hne, hb, fun y => ?_⟩
      rw [List.mem_cons, hn.mem_erase_iff]
      exact ⟨fun h => h.imp id fun h => ⟨h.2, h.1⟩, fun h => h.imp id fun h => ⟨h.2, h.1⟩⟩
theorem lruAdd_len {cap : Nat} {L : List Int} {b : Int} (h1 : 1 ≤ cap) (h : L.length ≤ cap) : (lruAdd cap L b).1.length ≤ cap := by
  unfold lruAdd
  split
  · rename_i hb
    have := List.length_pos_of_mem hb
    show (b :: L.erase b).length ≤ cap
    rw [List.length_cons, List.length_erase_of_mem hb]; omega
  · split
    · rename_i h2
      show (b :: L).length ≤ cap
      rw [List.length_cons]; omega
    · rename_i h2
      show (b :: L.erase (lst L)).length ≤ cap
      rw [List.length_cons, List.length_erase]
      split
      · omega
      · rename_i h3
        exfalso
        apply h3
        have h4 : L ≠ [] := by rintro rfl; simp at h2; omega
        cases L with
        | nil => exact absurd rfl h4
        | cons a L =>
          have : ∀ (L : List Int) (a : Int), lst (a :: L) ∈ a :: L := fun L => by
            induction L with
            | nil => intro a; exact List.mem_cons_self ..
            | cons c L ih =>
              intro a
              rw [lst_cons, if_neg (by simp)]
              exact List.mem_cons_of_mem _ (ih c)
          simpa using this L a
theorem Two.tri {p g eb k : Nat} (h : Two g eb k) : Tri p g eb k := .inr h
theorem lru_disp (p : Nat) : Disp 242 (.pointer (some ⟨p, 0, none⟩)) "Has" lruFn.has ∧ Disp 242 (.pointer (some ⟨p, 0, none⟩)) "Use" lruFn.use ∧ Disp 242 (.pointer (some ⟨p, 0, none⟩)) "Add" lruFn.add ∧
    Disp 242 (.pointer (some ⟨p, 0, none⟩)) "Remove" lruFn.rem ∧ Disp 242 (.pointer (some ⟨p, 0, none⟩)) "All" lruFn.all ∧ Disp 242 (.pointer (some ⟨p, 0, none⟩)) "Len" lruFn.len :=
  ⟨⟨fun w => by kernel_rfl, fun a w => by kernel_rfl⟩, ⟨fun w => by kernel_rfl, fun a w => by kernel_rfl⟩, ⟨fun w => by kernel_rfl, fun a w => by kernel_rfl⟩,
   ⟨fun w => by kernel_rfl, fun a w => by kernel_rfl⟩, ⟨fun w => by kernel_rfl, fun a w => by kernel_rfl⟩, ⟨fun w => by kernel_rfl, fun a w => by kernel_rfl⟩⟩
theorem lru_ord (p g eb cap : Nat) : OrdC (lruSp cap) 242 (.pointer (some ⟨p, 0, none⟩)) lruFn (Tri p g eb) (lruR p g eb cap) where
  dhas := (lru_disp p).1
  duse := (lru_disp p).2.1
  dadd := (lru_disp p).2.2.1
  drem := (lru_disp p).2.2.2.1
  dall := (lru_disp p).2.2.2.2.1
  dlen := (lru_disp p).2.2.2.2.2
  ptr := ⟨p, rfl, .inl rfl⟩
  only := fun h ho hF => ⟨h.1.only ho (hF p (.inl rfl)) (hF g (.inr (.inl rfl))) (hF eb (.inr (.inr rfl))), h.2⟩
  lt := fun h k hk => by
    rcases hk with rfl | rfl | rfl
    · exact h.1.box.lt
    · exact h.1.sp.lt1.1
    · exact h.1.sp.lt1.2
  has := fun b h => (lru_has b _ h.1).mono fun e w' ⟨h1, h2⟩ => ⟨h1, h2 ▸ Only.refl _ _⟩
  len := fun h => (lru_len _ h.1).mono fun e w' ⟨h1, h2⟩ => ⟨h1, h2 ▸ Only.refl _ _⟩
  all := fun h => lru_all _ h.1
  use := fun {s w b} h hb _ => by
    obtain ⟨n, rfl⟩ := Int.eq_ofNat_of_zero_le (h.1.sp.rng (i := 0) hb).1
    refine (lru_use w h.1 hb).mono fun e w' ⟨h1, h2, h3⟩ => ⟨h1, ⟨h2, ?_⟩, h3.mono fun k hk => .inl hk.tri⟩
    have hb : (n : Int) ∈ s := hb
    have := List.length_pos_of_mem hb
    have := h.2
    show ((n : Int) :: s.erase n).length ≤ cap
    rw [List.length_cons, List.length_erase_of_mem hb]; omega
  add := fun {s w b} h h0 h1 _ _ => by
    obtain ⟨n, rfl⟩ := Int.eq_ofNat_of_zero_le h0
    have hl := lruAdd_len (b := (n : Int)) h.1.c1 h.2
    by_cases hb : (n : Int) ∈ s
    · exact (lru_add_in w h.1 hb).mono fun e w' ⟨h2, h3, h4⟩ => ⟨h2, ⟨h3, hl⟩, h4.mono fun k hk => .inl hk.tri⟩
    · exact (lru_add_new w h.1 (by omega) h.2 hb).mono fun e w' ⟨h2, h3, h4⟩ => ⟨h2, ⟨h3, hl⟩, h4.mono fun k hk => .inl hk.tri⟩
  rem := fun {s w b} h hb => by
    obtain ⟨n, rfl⟩ := Int.eq_ofNat_of_zero_le (h.1.sp.rng (i := 0) hb).1
    refine (lru_rem w h.1 hb).mono fun e w' ⟨h1, h2, h3⟩ => ⟨h1, ⟨h2, ?_⟩, h3.mono fun k hk => .inl hk.tri⟩
    have hb : (n : Int) ∈ s := hb
    have := h.2
    show (s.erase n).length ≤ cap
    rw [List.length_erase_of_mem hb]; omega
  rng := fun h hb => h.1.sp.rng (i := 0) hb
  nodup := fun h => h.1.sp.nodup 0
  addL := fun h _ _ _ => lruAdd_mem (h.1.sp.nodup 0) h.1.c1
  useL := fun {s w b} h hb y => by
    have hb : b ∈ s := hb
    show y ∈ b :: s.erase b ↔ y ∈ s
    rw [List.mem_cons, (show s.Nodup from h.1.sp.nodup 0).mem_erase_iff]
    exact ⟨fun h => h.elim (fun e => e ▸ hb) fun h => h.2, fun h => by
      by_cases e : y = b
      · exact .inl e
      · exact .inr ⟨e, h⟩⟩
  remL := fun {s w b} h hb y => by
    show y ∈ s.erase b ↔ y ∈ s ∧ y ≠ b
    rw [(show s.Nodup from h.1.sp.nodup 0).mem_erase_iff]
    exact ⟨fun h => ⟨h.2, h.1⟩, fun h => ⟨h.2, h.1⟩⟩
  ageU := fun _ _ => Nat.le_succ _
  ageA := fun _ _ => Nat.le_succ _
  ageR := fun _ _ => Nat.le_refl _
structure OKind where
  σ : Type
  ι : Type
  sp : OSpec σ
  t : TypeId
  fn : OFn
  x : ι → Value
  F : ι → Nat → Prop
  R : ι → σ → World → Prop
  s0 : σ
  oc : ∀ i, OrdC sp t (x i) fn (F i) (R i)
  nil : sp.all s0 = []
def lruK (cap : Nat) : OKind := ⟨List Int, Nat × Nat × Nat, lruSp cap, 242, lruFn, fun i => .pointer (some ⟨i.1, 0, none⟩), fun i => Tri i.1 i.2.1 i.2.2, fun i => lruR i.1 i.2.1 i.2.2 cap, [], fun i => lru_ord i.1 i.2.1 i.2.2 cap, rfl⟩
end Go.Proofs.YtodephhlhdbeoaaGreat
