/- A space of lists: a block is put at a list's front. -/
import Derived.Test.YtcphifphidcbaaaGreatSpd
namespace Go.Proofs.YtcphifphidcbaaaGreat
open Go.RowKit Go.ChangeShapes Go.WideShapes
set_option linter.unusedVariables false
set_option linter.unusedSimpArgs false
theorem updI_updI {α : Type} (f : Int → α) (k : Int) (u v : α) : updI (updI f k u) k v = updI f k v := by
  funext x
  unfold updI
  split <;> rfl
theorem updN_updN {α : Type} (f : Nat → α) (k : Nat) (u v : α) : updN (updN f k u) k v = updN f k v := by
  funext x
  unfold updN
  split <;> rfl
theorem updI_self {α : Type} (f : Int → α) (k : Int) (u : α) : updI f k u k = u := by simp [updI]
theorem updN_self {α : Type} (f : Nat → α) (k : Nat) (u : α) : updN f k u k = u := by simp [updN]
def f2N (N : Int → Nd) (n f : Int) : Int → Nd := if f = -1 then N else updI N f { N f with a := n }
def f1E (E : Nat → En) (i : Nat) (n f : Int) : Nat → En := if f = -1 then updN E i { E i with k := n } else E
theorem frontN_eq (N : Int → Nd) (E : Nat → En) (i : Nat) (n : Int) : frontN N E i n = f2N (updI N n ⟨i, -1, (E i).f⟩) n (E i).f := rfl
theorem frontE_eq (E : Nat → En) (i : Nat) (n : Int) : frontE E i n = updN (f1E E i n (E i).f) i ⟨n, (f1E E i n (E i).f i).k, (E i).m + 1⟩ := by
  funext x
  unfold frontE f1E updN
  split
  · split <;> simp_all [updN]
  · split <;> simp_all [updN]
theorem f1E_m (E : Nat → En) (i : Nat) (n f : Int) : (f1E E i n f i).m = (E i).m := by
  unfold f1E updN
  split <;> simp_all
theorem f1E_f (E : Nat → En) (i : Nat) (n f : Int) : (f1E E i n f i).f = (E i).f := by
  unfold f1E updN
  split <;> simp_all
section
set_option maxHeartbeats 4000000
set_option maxRecDepth 100000
theorem SpM.setRow3 {w : World} {g eb m : Nat} {N : Int → Nd} {E : Nat → En} (h : SpM w g eb m N E) {b : Nat} (hb : b < 64) (n : Nd) :
    SpM (((w.setCell ⟨g, b * 3, none⟩ (.int .i64 n.l)).setCell ⟨g, b * 3 + 1, none⟩ (.int .i64 n.a)).setCell ⟨g, b * 3 + 2, none⟩ (.int .i64 n.b)) g eb m (updI N b n) E := by
  have s1 := h.setN hb (j := 0) (by decide) (.int .i64 n.l) { N b with l := n.l } fun k hk => by
    rcases (show k = 0 ∨ k = 1 ∨ k = 2 by omega) with rfl | rfl | rfl <;> rfl
  have s2 := s1.setN hb (j := 1) (by decide) (.int .i64 n.a) { N b with l := n.l, a := n.a } fun k hk => by
    rw [updI_self]
    rcases (show k = 0 ∨ k = 1 ∨ k = 2 by omega) with rfl | rfl | rfl <;> rfl
  have s3 := s2.setN hb (j := 2) (by decide) (.int .i64 n.b) n fun k hk => by
    rw [updI_self]
    rcases (show k = 0 ∨ k = 1 ∨ k = 2 by omega) with rfl | rfl | rfl <;> rfl
  rw [updI_updI, updI_updI] at s3
  exact s3
theorem front_ok {g eb m : Nat} {S : Nat → List Int} {i n : Nat} (w : World) (h : SpB w g eb m S) (hi : i < m) (hn : n < 64) :
    Calls Tryz.prog 115 #[.pointer (some ⟨g, 0, none⟩), .int .i64 i, .int .i64 n] w fun e w' => e = .returned (.int .i64 0) ∧ SpB w' g eb m (frontS (remS S n) i n) ∧ Only (Two g eb) w w' := by
  have hni : (n : Int) < 64 := by omega
  have him : (i : Int) < m := by omega
  have HR := Lib.hid (ready_ok w h hi hn)
  have hnot : ∀ j, (n : Int) ∉ remS S n j := by
    obtain ⟨N, E, hm, hr, _⟩ := h
    exact fun j => List.Nodup.not_mem_erase (hr.nodup j)
  generalize remS S n = S1 at *
  have HNOT := Lib.hid hnot
  clear h hnot
  go_enter Tryz.func115, Tryz.ntmps115
  go_upto_region 4 with (go_at_call 153; refine HR.out.mono ?_; rintro e W1 ⟨rfl, h1, ho1⟩)
  clear HR
  obtain ⟨N, E, hm, hr, hm0, hm40⟩ := h1
  have hres := hr.fronts hi (by omega) hni HNOT.out
  have hfne : ∀ x : Nat, hd (S1 i) = x → x ≠ n ∧ x < 64 := fun x hx => by
    have hxm : hd (S1 i) ∈ S1 i := hd_mem (by omega)
    rw [hx] at hxm
    have := hr.rng hxm
    exact ⟨fun e => HNOT.out i (e ▸ hxm), by omega⟩
  have hfor : hd (S1 i) = -1 ∨ ∃ a : Nat, hd (S1 i) = a := by
    by_cases e : hd (S1 i) = -1
    · exact .inl e
    · have := hr.rng (hd_mem e)
      exact .inr ⟨(hd (S1 i)).toNat, by omega⟩
  have hlen := hr.len i
  have hE := hr.ends i hi
  have hEm : 0 ≤ (E i).m ∧ (E i).m ≤ 64 := by rw [hE]; constructor <;> (try dsimp only) <;> omega
  have hEf : (E i).f = hd (S1 i) := by rw [hE]
  rw [← hEf] at hfne hfor
  have HRES := Lib.hid hres
  have H1 := Lib.hid hm
  have HO1 := Lib.hid ho1
  have HFN := Lib.hid hfne
  have HFO := Lib.hid hfor
  have HEM := Lib.hid hEm
  have HM := Lib.hid (show 0 < m ∧ m ≤ 40 from ⟨hm0, hm40⟩)
  clear hm hr hm0 hm40 hres hfne hfor hlen hE hEm hEf ho1
  have hh := H1.out.hd
  have ce : W1.cell? ⟨eb, i * 3, none⟩ = some (.int .i64 (E i).f) := H1.out.end_ (b := i) (j := 0) hi (by decide)
  have c0 : W1.cell? ⟨g, n * 3, none⟩ = some (.int .i64 (N n).l) := H1.out.node (b := n) (j := 0) hn (by decide)
  have c1 : W1.cell? ⟨g, n * 3 + 1, none⟩ = some (.int .i64 (N n).a) := H1.out.node (b := n) (j := 1) hn (by decide)
  have c2 : W1.cell? ⟨g, n * 3 + 2, none⟩ = some (.int .i64 (N n).b) := H1.out.node (b := n) (j := 2) hn (by decide)
  have f0 := H1.out.1.free (n * 3)
  have f1 := H1.out.1.free (n * 3 + 1)
  have f2 := H1.out.1.free (n * 3 + 2)
  have HFQ := Lib.hid (frontN_eq N E i n)
  have HEQ := Lib.hid (frontE_eq E i n)
  have hq1 := f1E_m E i n (E i).f
  have hq2 := f1E_f E i n (E i).f
  generalize hf : (E i).f = f at *
  have HF := Lib.hid hf
  have HQ1 := Lib.hid hq1
  have HQ2 := Lib.hid hq2
  clear hf hq1 hq2
  go_upto_region 5 with fail
  refine wp_region_tail (S := (fun w' : World => w' = W1.drew)) 11 (by kernel_rfl) (by kernel_rfl) ?_ ?_
  · rfl
  intro hSS
  refine wpHd_take (i := 0) (v := ?_) (by kernel_rfl) rfl (by kernel_rfl) (fun _ _ _ h => h) (Or.inl ⟨by rfl, ?_⟩) (by assumption) ?_
  rotate_left
  · intro w hSw; (try dsimp only at hSw); go_simp; (try with_reducible rfl)
  try simp only [Act.put, List.getElem_toArray, List.getElem_cons_succ, List.getElem_cons_zero, List.setIfInBounds_toArray, List.set_cons_zero, List.set_cons_succ]
  refine wpHd_take (i := 1) (v := ?_) (by kernel_rfl) rfl (by kernel_rfl) (fun _ _ _ h => h) (Or.inl ⟨by rfl, ?_⟩) (by assumption) ?_
  rotate_left
  · intro w hSw; (try dsimp only at hSw); go_simp; (try with_reducible rfl)
  try simp only [Act.put, List.getElem_toArray, List.getElem_cons_succ, List.getElem_cons_zero, List.setIfInBounds_toArray, List.set_cons_zero, List.set_cons_succ]
  refine wpHd_take (i := 2) (v := ?_) (by kernel_rfl) rfl (by kernel_rfl) (fun _ _ _ h => h) (Or.inl ⟨by rfl, ?_⟩) (by assumption) ?_
  rotate_left
  · intro w hSw; (try dsimp only at hSw); go_simp; (try with_reducible rfl)
  try simp only [Act.put, List.getElem_toArray, List.getElem_cons_succ, List.getElem_cons_zero, List.setIfInBounds_toArray, List.set_cons_zero, List.set_cons_succ]
  refine wpHd_take (i := 3) (v := ?_) (by kernel_rfl) rfl (by kernel_rfl) (fun _ _ _ h => h) (Or.inl ⟨by rfl, ?_⟩) (by assumption) ?_
  rotate_left
  · intro w hSw; (try dsimp only at hSw); go_simp; (try with_reducible rfl)
  try simp only [Act.put, List.getElem_toArray, List.getElem_cons_succ, List.getElem_cons_zero, List.setIfInBounds_toArray, List.set_cons_zero, List.set_cons_succ]
  refine wpHd_take (i := 4) (v := ?_) (by kernel_rfl) rfl (by kernel_rfl) (fun _ _ _ h => h) (Or.inl ⟨by rfl, ?_⟩) (by assumption) ?_
  rotate_left
  · intro w hSw; (try dsimp only at hSw); go_simp; (try with_reducible rfl)
  try simp only [Act.put, List.getElem_toArray, List.getElem_cons_succ, List.getElem_cons_zero, List.setIfInBounds_toArray, List.set_cons_zero, List.set_cons_succ]
  refine wpHd_take (i := 5) (v := ?_) (by kernel_rfl) rfl (by kernel_rfl) (fun _ _ _ h => h) (Or.inl ⟨by rfl, ?_⟩) (by assumption) ?_
  rotate_left
  · intro w hSw; (try dsimp only at hSw); go_simp; (try with_reducible rfl)
  try simp only [Act.put, List.getElem_toArray, List.getElem_cons_succ, List.getElem_cons_zero, List.setIfInBounds_toArray, List.set_cons_zero, List.set_cons_succ]
  refine wpHd_take (i := 6) (v := ?_) (by kernel_rfl) rfl (by kernel_rfl) (fun _ _ _ h => h) (Or.inl ⟨by rfl, ?_⟩) (by assumption) ?_
  rotate_left
  · intro w hSw; (try dsimp only at hSw); go_simp; (try with_reducible rfl)
  try simp only [Act.put, List.getElem_toArray, List.getElem_cons_succ, List.getElem_cons_zero, List.setIfInBounds_toArray, List.set_cons_zero, List.set_cons_succ]
  refine wpHd_take (i := 7) (v := ?_) (by kernel_rfl) rfl (by kernel_rfl) (fun _ _ _ h => h) (Or.inl ⟨by rfl, ?_⟩) (by assumption) ?_
  rotate_left
  · intro w hSw; (try dsimp only at hSw); go_simp; (try with_reducible rfl)
  try simp only [Act.put, List.getElem_toArray, List.getElem_cons_succ, List.getElem_cons_zero, List.setIfInBounds_toArray, List.set_cons_zero, List.set_cons_succ]
  refine wpHd_take (i := 8) (v := ?_) (by kernel_rfl) rfl (by kernel_rfl) (fun _ _ _ h => h) (Or.inl ⟨by rfl, ?_⟩) (by assumption) ?_
  rotate_left
  · intro w hSw; (try dsimp only at hSw); go_simp; (try with_reducible rfl)
  try simp only [Act.put, List.getElem_toArray, List.getElem_cons_succ, List.getElem_cons_zero, List.setIfInBounds_toArray, List.set_cons_zero, List.set_cons_succ]
  refine wpHd_take (i := 9) (v := ?_) (by kernel_rfl) rfl (by kernel_rfl) (fun _ _ _ h => h) (Or.inl ⟨by rfl, ?_⟩) (by assumption) ?_
  rotate_left
  · intro w hSw; (try dsimp only at hSw); go_simp; (try with_reducible rfl)
  try simp only [Act.put, List.getElem_toArray, List.getElem_cons_succ, List.getElem_cons_zero, List.setIfInBounds_toArray, List.set_cons_zero, List.set_cons_succ]
  refine wpHd_take (i := 10) (v := ?_) (by kernel_rfl) rfl (by kernel_rfl) (fun _ _ _ h => h) (Or.inl ⟨by rfl, ?_⟩) (by assumption) ?_
  rotate_left
  · intro w hSw; (try dsimp only at hSw); go_simp; (try with_reducible rfl)
  try simp only [Act.put, List.getElem_toArray, List.getElem_cons_succ, List.getElem_cons_zero, List.setIfInBounds_toArray, List.set_cons_zero, List.set_cons_succ]
  refine wpHd_end (by kernel_rfl) ?_
  clear hSS
  go_upto_region 6 with fail
  have H2 := Lib.hid (show SpM (((W1.drew.setCell ⟨g, n * 3, none⟩ (.int .i64 i)).setCell ⟨g, n * 3 + 1, none⟩ (.int .i64 (-1))).setCell ⟨g, n * 3 + 2, none⟩ (.int .i64 f)) g eb m (updI N n ⟨i, -1, f⟩) E from (show SpM W1.drew g eb m N E from H1.out).setRow3 hn ⟨i, -1, f⟩)
  have HO2 := Lib.hid (show Only (Two g eb) w (((W1.drew.setCell ⟨g, n * 3, none⟩ (.int .i64 i)).setCell ⟨g, n * 3 + 1, none⟩ (.int .i64 (-1))).setCell ⟨g, n * 3 + 2, none⟩ (.int .i64 f)) from ((HO1.out.drew.setCell (p := ⟨g, n * 3, none⟩) (.inl (.inl rfl)) (.int .i64 i)).setCell (p := ⟨g, n * 3 + 1, none⟩) (.inl (.inl rfl)) (.int .i64 (-1))).setCell (p := ⟨g, n * 3 + 2, none⟩) (.inl (.inl rfl)) (.int .i64 f))
  change Code.wp _ _ _ _ (((W1.drew.setCell ⟨g, n * 3, none⟩ (.int .i64 i)).setCell ⟨g, n * 3 + 1, none⟩ (.int .i64 (-1))).setCell ⟨g, n * 3 + 2, none⟩ (.int .i64 f))
  clear hh ce c0 c1 c2 f0 f1 f2 H1 HO1
  generalize (((W1.drew.setCell ⟨g, n * 3, none⟩ (.int .i64 i)).setCell ⟨g, n * 3 + 1, none⟩ (.int .i64 (-1))).setCell ⟨g, n * 3 + 2, none⟩ (.int .i64 f)) = W2 at *
  generalize updI N n ⟨i, -1, f⟩ = N1 at *
  have ce : W2.cell? ⟨eb, i * 3, none⟩ = some (.int .i64 f) := by
    have := H2.out.end_ (b := i) (j := 0) hi (by decide)
    rw [← HF.out]; exact this
  go_upto_if 37 with fail
  go_cut [] (fun wx => SpM wx g eb m (f2N N1 n f) (f1E E i n f) ∧ Only (Two g eb) W2 wx)
  case first =>
    have hf := HFO.out
    have hf2 := HFN.out
    clear HFO HFN HQ1 HQ2 HFQ HEQ HF
    rcases hf with hf | ⟨a, hf⟩
    · subst hf
      have e1 := Lib.hid (show f2N N1 n (-1) = N1 from rfl)
      have e2 := Lib.hid (show f1E E i n (-1) = updN E i { E i with k := n } from rfl)
      have f1 := H2.out.2.free (i * 3 + 1)
      have ck : W2.cell? ⟨eb, i * 3 + 1, none⟩ = some (.int .i64 (E i).k) := H2.out.end_ (b := i) (j := 1) hi (by decide)
      clear hf2
      go_wp2
      go_meet
      case rel =>
        refine ⟨?_, Only.setCell (p := ⟨eb, i * 3 + 1, none⟩) (Only.refl _ _) (.inl (.inr rfl)) _⟩
        rw [e1.out, e2.out]
        exact H2.out.setE hi (j := 1) (by decide) _ _ fun k hk => by
          rcases (show k = 0 ∨ k = 1 ∨ k = 2 by omega) with rfl | rfl | rfl <;> rfl
    · obtain ⟨han, ha64⟩ := hf2 a hf
      subst hf
      have e : ¬ ((a : Int) = -1) := by omega
      have e1 := Lib.hid (show f2N N1 n a = updI N1 a { N1 a with a := n } from if_neg e)
      have e2 := Lib.hid (show f1E E i n a = E from if_neg e)
      clear e hf2 han
      have f1 := H2.out.1.free (a * 3 + 1)
      have hai : (a : Int) < 64 := by omega
      have ca : W2.cell? ⟨g, a * 3 + 1, none⟩ = some (.int .i64 (N1 a).a) := H2.out.node (b := a) (j := 1) ha64 (by decide)
      go_upto_region 8 with fail
      refine wp_region_tail (S := (fun w' : World => w' = W2.drew)) 10 (by kernel_rfl) (by kernel_rfl) ?_ ?_
      · rfl
      intro hSS
      refine wpHd_take (i := 0) (v := ?_) (by kernel_rfl) rfl (by kernel_rfl) (fun _ _ _ h => h) (Or.inl ⟨by rfl, ?_⟩) (by assumption) ?_
      rotate_left
      · intro w hSw; (try dsimp only at hSw); go_simp; (try with_reducible rfl)
      try simp only [Act.put, List.getElem_toArray, List.getElem_cons_succ, List.getElem_cons_zero, List.setIfInBounds_toArray, List.set_cons_zero, List.set_cons_succ]
      refine wpHd_take (i := 1) (v := ?_) (by kernel_rfl) rfl (by kernel_rfl) (fun _ _ _ h => h) (Or.inl ⟨by rfl, ?_⟩) (by assumption) ?_
      rotate_left
      · intro w hSw; (try dsimp only at hSw); go_simp; (try with_reducible rfl)
      try simp only [Act.put, List.getElem_toArray, List.getElem_cons_succ, List.getElem_cons_zero, List.setIfInBounds_toArray, List.set_cons_zero, List.set_cons_succ]
      refine wpHd_take (i := 2) (v := ?_) (by kernel_rfl) rfl (by kernel_rfl) (fun _ _ _ h => h) (Or.inl ⟨by rfl, ?_⟩) (by assumption) ?_
      rotate_left
      · intro w hSw; (try dsimp only at hSw); go_simp; (try with_reducible rfl)
      try simp only [Act.put, List.getElem_toArray, List.getElem_cons_succ, List.getElem_cons_zero, List.setIfInBounds_toArray, List.set_cons_zero, List.set_cons_succ]
      refine wpHd_take (i := 3) (v := ?_) (by kernel_rfl) rfl (by kernel_rfl) (fun _ _ _ h => h) (Or.inl ⟨by rfl, ?_⟩) (by assumption) ?_
      rotate_left
      · intro w hSw; (try dsimp only at hSw); go_simp; (try with_reducible rfl)
      try simp only [Act.put, List.getElem_toArray, List.getElem_cons_succ, List.getElem_cons_zero, List.setIfInBounds_toArray, List.set_cons_zero, List.set_cons_succ]
      refine wpHd_take (i := 4) (v := ?_) (by kernel_rfl) rfl (by kernel_rfl) (fun _ _ _ h => h) (Or.inl ⟨by rfl, ?_⟩) (by assumption) ?_
      rotate_left
      · intro w hSw; (try dsimp only at hSw); go_simp; (try with_reducible rfl)
      try simp only [Act.put, List.getElem_toArray, List.getElem_cons_succ, List.getElem_cons_zero, List.setIfInBounds_toArray, List.set_cons_zero, List.set_cons_succ]
      refine wpHd_take (i := 5) (v := ?_) (by kernel_rfl) rfl (by kernel_rfl) (fun _ _ _ h => h) (Or.inl ⟨by rfl, ?_⟩) (by assumption) ?_
      rotate_left
      · intro w hSw; (try dsimp only at hSw); go_simp; (try with_reducible rfl)
      try simp only [Act.put, List.getElem_toArray, List.getElem_cons_succ, List.getElem_cons_zero, List.setIfInBounds_toArray, List.set_cons_zero, List.set_cons_succ]
      refine wpHd_take (i := 6) (v := ?_) (by kernel_rfl) rfl (by kernel_rfl) (fun _ _ _ h => h) (Or.inl ⟨by rfl, ?_⟩) (by assumption) ?_
      rotate_left
      · intro w hSw; (try dsimp only at hSw); go_simp; (try with_reducible rfl)
      try simp only [Act.put, List.getElem_toArray, List.getElem_cons_succ, List.getElem_cons_zero, List.setIfInBounds_toArray, List.set_cons_zero, List.set_cons_succ]
      refine wpHd_take (i := 7) (v := ?_) (by kernel_rfl) rfl (by kernel_rfl) (fun _ _ _ h => h) (Or.inl ⟨by rfl, ?_⟩) (by assumption) ?_
      rotate_left
      · intro w hSw; (try dsimp only at hSw); go_simp; (try with_reducible rfl)
      try simp only [Act.put, List.getElem_toArray, List.getElem_cons_succ, List.getElem_cons_zero, List.setIfInBounds_toArray, List.set_cons_zero, List.set_cons_succ]
      refine wpHd_take (i := 8) (v := ?_) (by kernel_rfl) rfl (by kernel_rfl) (fun _ _ _ h => h) (Or.inl ⟨by rfl, ?_⟩) (by assumption) ?_
      rotate_left
      · intro w hSw; (try dsimp only at hSw); go_simp; (try with_reducible rfl)
      try simp only [Act.put, List.getElem_toArray, List.getElem_cons_succ, List.getElem_cons_zero, List.setIfInBounds_toArray, List.set_cons_zero, List.set_cons_succ]
      refine wpHd_take (i := 9) (v := ?_) (by kernel_rfl) rfl (by kernel_rfl) (fun _ _ _ h => h) (Or.inl ⟨by rfl, ?_⟩) (by assumption) ?_
      rotate_left
      · intro w hSw; (try dsimp only at hSw); go_simp; (try with_reducible rfl)
      try simp only [Act.put, List.getElem_toArray, List.getElem_cons_succ, List.getElem_cons_zero, List.setIfInBounds_toArray, List.set_cons_zero, List.set_cons_succ]
      refine wpHd_end (by kernel_rfl) ?_
      clear hSS
      go_wp2
      go_meet
      case rel =>
        refine ⟨?_, (Only.setCell (p := ⟨g, a * 3 + 1, none⟩) ((Only.refl _ _).drew) (.inl (.inl rfl)) _)⟩
        rw [e1.out, e2.out]
        exact (show SpM W2.drew g eb m N1 E from H2.out).setN ha64 (j := 1) (by decide) _ _ fun k hk => by
          rcases (show k = 0 ∨ k = 1 ∨ k = 2 by omega) with rfl | rfl | rfl <;> rfl
  case rest =>
    obtain ⟨h3, ho3⟩ := hcut
    obtain ⟨W3, e3⟩ : ∃ W3, W3 = wc := ⟨_, rfl⟩
    subst e3
    have HO3 := Lib.hid (HO2.out.trans ho3)
    have H3 := Lib.hid h3
    clear h3 ho3 ce HO2 H2
    generalize f2N N1 n f = N2 at *
    generalize f1E E i n f = E2 at *
    have ce : W3.cell? ⟨eb, i * 3, none⟩ = some (.int .i64 (E2 i).f) := H3.out.end_ (b := i) (j := 0) hi (by decide)
    have cm : W3.cell? ⟨eb, i * 3 + 2, none⟩ = some (.int .i64 (E2 i).m) := H3.out.end_ (b := i) (j := 2) hi (by decide)
    have f0 := H3.out.2.free (i * 3)
    have f2 := H3.out.2.free (i * 3 + 2)
    have hm := HEM.out
    have hq := HQ1.out
    rw [← hq] at hm
    generalize hmm : (E2 i).m = q at *
    have HMM := Lib.hid hmm
    have hw : IntKind.i64.wrap (q + 1) = q + 1 := by rw [IntKind.wrap_i64]; omega
    clear hm hq hmm HEM
    go_wp2
    go_ret
    refine ⟨rfl, ⟨_, _, ?_, HRES.out, HM.out.1, HM.out.2⟩, (HO3.out.setCell (p := ⟨eb, i * 3, none⟩) (.inl (.inr rfl)) _).setCell (p := ⟨eb, i * 3 + 2, none⟩) (.inl (.inr rfl)) _⟩
    rw [HFQ.out, HEQ.out, ← HQ1.out]
    have s1 := H3.out.setE hi (j := 0) (by decide) (.int .i64 n) { E2 i with f := n } fun k hk => by
      rcases (show k = 0 ∨ k = 1 ∨ k = 2 by omega) with rfl | rfl | rfl <;> rfl
    have s2 := s1.setE hi (j := 2) (by decide) (.int .i64 (q + 1)) ⟨n, (E2 i).k, q + 1⟩ fun k hk => by
      rw [updN_self]
      rcases (show k = 0 ∨ k = 1 ∨ k = 2 by omega) with rfl | rfl | rfl <;> rfl
    rw [updN_updN] at s2
    exact s2
end
end Go.Proofs.YtcphifphidcbaaaGreat
