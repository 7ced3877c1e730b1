/- The reader: num, signed, text. Printed by rdr.py. -/
import Derived.Test.YtaofjnpmnaohcaaNumC
import Derived.Test.YtaofjnpmnaohcaaActA
import Derived.Test.YtaofjnpmnaohcaaPutB
import Derived.Test.YtaofjnpmnaohcaaTail
import Derived.BigQuiet
namespace Go.Proofs.Ytaofjnpmnaohcaa
open Go.RowKit
set_option linter.unusedVariables false
set_option linter.unusedSimpArgs false
def stNum (b : List Int) (p : Nat) (e : Int) : Nat × Nat × Int := if e = 0 then match numR b p with | .ok (n, j) => (n, j, 0) | .error x => (0, 0, x) else (0, p, e)
def stSgn (b : List Int) (p : Nat) (e : Int) : Int × Nat × Int := if (stNum b p e).2.2 = 0 ∧ (stNum b p e).1 = 0 then (0, (stNum b p e).2.1, 2) else (unfoldedN (stNum b p e).1, (stNum b p e).2.1, (stNum b p e).2.2)
def stTxt (most : Nat) (b : List Int) (p : Nat) (e : Int) : List Int × Nat × Int := if e = 0 then match textR most b p with | .ok (t, j) => (t, j, 0) | .error x => ([], 0, x) else ([], p, e)
def IsB (b : List Int) : Prop := ∀ x ∈ b, 0 ≤ x ∧ x ≤ 255
theorem inR_all : ∀ (b : List Int) (i : Nat), IsB b → inR b i
  | [], _, _ => trivial
  | c :: cs, i, h => ⟨h c (List.mem_cons_self ..), fun _ _ => inR_all cs (i + 1) fun x hx => h x (List.mem_cons_of_mem _ hx)⟩
theorem inR_drop {b : List Int} (h : IsB b) (p : Nat) : inR (b.drop p) 0 := inR_all _ _ fun x hx => h x (List.mem_of_mem_drop hx)
theorem rdN_lt : ∀ (l : List Int) (i acc n k : Nat), IsB l → i ≤ 8 → acc < 128 ^ i → rdN l i acc = .ok n k → n < 2 ^ 63
  | [], _, _, _, _, _, _, _, h => by simp [rdN] at h
  | c :: cs, i, acc, n, k, hb, hi, ha, h => by
    have hc := hb c (List.mem_cons_self ..)
    rw [rdN] at h
    split at h
    · split at h
      · cases h
      · refine rdN_lt cs (i + 1) _ n k (fun x hx => hb x (List.mem_cons_of_mem _ hx)) (by omega) ?_ h
        rw [Nat.pow_succ]
        have := Nat.mul_le_mul_right (128 ^ i) (show c.toNat % 128 ≤ 127 by omega)
        omega
    · split at h
      · cases h
      · injection h with h1 h2
        have := (or63 acc c.toNat i ha (by omega) hi).1
        omega
theorem rd_lt63 {b : List Int} {p n k : Nat} (hb : IsB b) (h : rd (b.drop p) = .ok n k) : n < 2 ^ 63 :=
  rdN_lt _ 0 0 n k (fun x hx => hb x (List.mem_of_mem_drop hx)) (by decide) (by decide) h
theorem numR_ok {b : List Int} {p n j : Nat} (h : numR b p = .ok (n, j)) : ∃ k, rd (b.drop p) = .ok n k ∧ j = p + k := by
  unfold numR at h
  cases hr : rd (b.drop p) with
  | ok m k => rw [hr] at h; injection h with h; injection h with h1 h2; exact ⟨k, by rw [h1], h2.symm⟩
  | short => rw [hr] at h; cases h
  | form => rw [hr] at h; cases h
theorem numR_err {b : List Int} {p : Nat} {x : Int} (h : numR b p = .error x) : (rd (b.drop p) = .short ∧ x = 1) ∨ (rd (b.drop p) = .form ∧ x = 2) := by
  unfold numR at h
  cases hr : rd (b.drop p) with
  | ok m k => rw [hr] at h; cases h
  | short => rw [hr] at h; injection h with h; exact .inl ⟨rfl, h.symm⟩
  | form => rw [hr] at h; injection h with h; exact .inr ⟨rfl, h.symm⟩
theorem getV_num {b : List Int} {p : Nat} : getV b p = .tuple #[.int .i64 ((stNum b p 0).1 : Nat), .int .i64 ((stNum b p 0).2.1 : Nat), .int .i64 (stNum b p 0).2.2] := by
  unfold stNum
  rw [if_pos rfl]
  cases hn : numR b p with
  | ok q => obtain ⟨n, j⟩ := q; obtain ⟨k, hk, rfl⟩ := numR_ok hn; rw [getV_ok hk]
  | error x =>
    rcases numR_err hn with ⟨h, rfl⟩ | ⟨h, rfl⟩
    · rw [getV_short h]; rfl
    · rw [getV_form h]; rfl
/-- the reader r of the bytes b, at p, with the error e -/
def RdAt (w : World) (r : Nat) (A : Option Addr) (cp : Nat) (b : List Int) (p : Nat) (e : Int) : Prop := Box w r 59 #[.slice A b.length cp, .int .i64 (p : Nat), .int .i64 e]
section
set_option maxHeartbeats 2000000
set_option maxRecDepth 100000
theorem unfolded63_any (N : Nat) (h : N < 2 ^ 63) (w : World) : Calls Try.prog 40 #[.int .i64 N] w fun e w' => e = .returned (.int .i64 (unfoldedN N)) ∧ w = w' := by
  have e0 : IntKind.i64.wrap ((N : Int) / 2) = (N : Int) / 2 := IntWalk.i64_in _ (by omega)
  have e1 : IntKind.i64.wrap (-((N : Int) / 2)) = -((N : Int) / 2) := IntWalk.i64_in _ (by omega)
  have t0 : Int.tdiv (N : Int) 2 = (N : Int) / 2 := by rw [Int.tdiv_eq_ediv_of_nonneg (by omega)]
  by_cases hn : N % 2 = 0
  · have Hu := Lib.hid (show unfoldedN N = -((N : Int) / 2) from by unfold unfoldedN; rw [if_pos hn]; omega)
    have t1 : Int.tmod (N : Int) 2 = 0 := by rw [Int.tmod_eq_emod_of_nonneg (by omega)]; omega
    have t2 : (N : Int) % 2 = 0 := by omega
    clear hn
    go_enter Try.func40, Try.ntmps40
    go_wp2_with fail
    go_ret
    exact ⟨by rw [Hu.out]; rfl, rfl⟩
  · have Hu := Lib.hid (show unfoldedN N = (N : Int) / 2 from by unfold unfoldedN; rw [if_neg hn]; omega)
    have t1 : Int.tmod (N : Int) 2 = 1 := by rw [Int.tmod_eq_emod_of_nonneg (by omega)]; omega
    have t2 : (N : Int) % 2 = 1 := by omega
    clear hn
    go_enter Try.func40, Try.ntmps40
    go_wp2_with fail
    go_ret
    exact ⟨by rw [Hu.out]; rfl, rfl⟩
theorem rnum_any (r : Nat) (A : Option Addr) (cp : Nat) (b : List Int) (p : Nat) (e : Int) (w : World) (h : RdAt w r A cp b p e) (hby : Byt w (.slice A b.length cp) b) (hp : e = 0 → p ≤ b.length) (hb : IsB b) :
    Calls Try.prog 26 #[.pointer (some ⟨r, 0, none⟩)] w fun e' w' => e' = .returned (.int .i64 ((stNum b p e).1 : Nat)) ∧ RdAt w' r A cp b (stNum b p e).2.1 (stNum b p e).2.2 ∧ Only (Just r) w w' := by
  have H := Lib.hid h
  by_cases he : e = 0
  · subst he
    have HG := Lib.hid (fun n => rawget_any A b.length cp b p (w.drewN n) (hby.only ((Only.refl Non w).drewN n) fun _ _ => id) (hp rfl) (inR_drop hb p))
    rw [getV_num] at HG
    clear h hby hp hb
    have x0 : w.cell? ⟨r, 0, none⟩ = some (.slice A b.length cp) := H.out.cellAt rfl
    have x1 : w.cell? ⟨r, 1, none⟩ = some (.int .i64 (p : Nat)) := H.out.cellAt rfl
    have x2 : w.cell? ⟨r, 2, none⟩ = some (.int .i64 0) := H.out.cellAt rfl
    have g1 : w.frozen? ⟨r, 1, none⟩ = false := H.out.free 1
    have g2 : w.frozen? ⟨r, 2, none⟩ = false := H.out.free 2
    generalize (stNum b p 0).1 = n1 at *
    generalize (stNum b p 0).2.1 = p1 at *
    generalize (stNum b p 0).2.2 = e1 at *
    go_enter Try.func26, Try.ntmps26
    go_wp2_with fail
    go_quiet ((go_at_call 39; exact quiet_l (HG.out _)))
    go_wp2
    go_ret
    refine ⟨rfl, ?_, ?_⟩
    · exact ((H.out.drewN nq).store 1 _).store 2 _
    · exact (((Only.refl (Just r) w).drewN nq).setCell (p := ⟨r, 1, none⟩) (.inl rfl) _).setCell (p := ⟨r, 2, none⟩) (.inl rfl) _
  · have Hst := Lib.hid (show stNum b p e = (0, p, e) from by unfold stNum; rw [if_neg he])
    have hne : (e != 0) = true := by simp [he]
    clear h hby hp hb he
    have x2 : w.cell? ⟨r, 2, none⟩ = some (.int .i64 e) := H.out.cellAt rfl
    rw [Hst.out]
    go_enter Try.func26, Try.ntmps26
    go_wp2_with fail
    go_ret
    exact ⟨rfl, H.out, Only.refl _ _⟩
theorem stNum_lt {b : List Int} (hb : IsB b) (p : Nat) (e : Int) : (stNum b p e).1 < 2 ^ 63 := by
  unfold stNum
  split
  · cases hn : numR b p with
    | ok q => obtain ⟨n, j⟩ := q; obtain ⟨k, hk, rfl⟩ := numR_ok hn; exact rd_lt63 hb hk
    | error x => show 0 < 2 ^ 63; decide
  · show 0 < 2 ^ 63; decide
theorem rsgn_any (r : Nat) (A : Option Addr) (cp : Nat) (b : List Int) (p : Nat) (e : Int) (w : World) (h : RdAt w r A cp b p e) (hby : Byt w (.slice A b.length cp) b) (hp : e = 0 → p ≤ b.length) (hb : IsB b) :
    Calls Try.prog 28 #[.pointer (some ⟨r, 0, none⟩)] w fun e' w' => e' = .returned (.int .i64 (stSgn b p e).1) ∧ RdAt w' r A cp b (stSgn b p e).2.1 (stSgn b p e).2.2 ∧ Only (Just r) w w' := by
  have HN := Lib.hid (rnum_any r A cp b p e w h hby hp hb)
  have HU := Lib.hid (fun w => unfolded63_any (stNum b p e).1 (stNum_lt hb p e) w)
  unfold stSgn
  generalize (stNum b p e).1 = n1 at *
  generalize (stNum b p e).2.1 = p1 at *
  generalize (stNum b p e).2.2 = e1 at *
  clear h hby hp hb
  by_cases hc : e1 = 0 ∧ n1 = 0
  · rw [if_pos hc]
    obtain ⟨rfl, rfl⟩ := hc
    go_enter Try.func28, Try.ntmps28
    go_wp2_with fail
    refine HN.out.mono ?_
    rintro e w1 ⟨rfl, h1, ho1⟩
    have H1 := Lib.hid h1
    have Ho1 := Lib.hid ho1
    have x2 : w1.cell? ⟨r, 2, none⟩ = some (.int .i64 0) := H1.out.cellAt rfl
    have g2 : w1.frozen? ⟨r, 2, none⟩ = false := H1.out.free 2
    clear h1 ho1
    go_wp2_with fail
    refine (HU.out _).mono ?_
    rintro e w2 ⟨rfl, e2⟩
    rw [← e2]
    clear e2
    go_wp2_with fail
    go_ret
    exact ⟨rfl, H1.out.store 2 _, Ho1.out.setCell (p := ⟨r, 2, none⟩) (.inl rfl) _⟩
  · rw [if_neg hc]
    by_cases he : e1 = 0
    · subst he
      have hn : ¬ (n1 : Int) = 0 := by omega
      have hn2 : ¬ n1 = 0 := by omega
      clear hc
      go_enter Try.func28, Try.ntmps28
      go_wp2_with fail
      refine HN.out.mono ?_
      rintro e w1 ⟨rfl, h1, ho1⟩
      have H1 := Lib.hid h1
      have Ho1 := Lib.hid ho1
      have x2 : w1.cell? ⟨r, 2, none⟩ = some (.int .i64 0) := H1.out.cellAt rfl
      clear h1 ho1
      go_wp2_with fail
      refine (HU.out _).mono ?_
      rintro e w2 ⟨rfl, e2⟩
      rw [← e2]
      clear e2
      go_wp2_with fail
      go_ret
      exact ⟨rfl, H1.out, Ho1.out⟩
    · have hne : (e1 == 0) = false := by simp [he]
      clear hc
      go_enter Try.func28, Try.ntmps28
      go_wp2_with fail
      refine HN.out.mono ?_
      rintro e w1 ⟨rfl, h1, ho1⟩
      have H1 := Lib.hid h1
      have Ho1 := Lib.hid ho1
      have x2 : w1.cell? ⟨r, 2, none⟩ = some (.int .i64 e1) := H1.out.cellAt rfl
      clear h1 ho1
      go_wp2_with fail
      refine (HU.out _).mono ?_
      rintro e w2 ⟨rfl, e2⟩
      rw [← e2]
      clear e2
      go_wp2_with fail
      go_ret
      exact ⟨rfl, H1.out, Ho1.out⟩
theorem rtxt_any (r : Nat) (A : Option Addr) (cp : Nat) (b : List Int) (p most : Nat) (e : Int) (w : World) (h : RdAt w r A cp b p e) (hby : Byt w (.slice A b.length cp) b) (hp : e = 0 → p ≤ b.length) (hb : IsB b) :
    Calls Try.prog 24 #[.pointer (some ⟨r, 0, none⟩), .int .i64 most] w fun e' w' => ∃ v, e' = .returned v ∧ Row 5 w' v (bytes (stTxt most b p e).1) ∧ RdAt w' r A cp b (stTxt most b p e).2.1 (stTxt most b p e).2.2 ∧ Only (Just r) w w' ∧ ∀ k, ownB v k → w.heap.size ≤ k := by
  have H := Lib.hid h
  have Hlt := Lib.hid h.lt
  by_cases he : e = 0
  · subst he
    have HBy := Lib.hid hby
    have x0 : w.cell? ⟨r, 0, none⟩ = some (.slice A b.length cp) := H.out.cellAt rfl
    have x1 : w.cell? ⟨r, 1, none⟩ = some (.int .i64 (p : Nat)) := H.out.cellAt rfl
    have x2 : w.cell? ⟨r, 2, none⟩ = some (.int .i64 0) := H.out.cellAt rfl
    have g1 : w.frozen? ⟨r, 1, none⟩ = false := H.out.free 1
    have g2 : w.frozen? ⟨r, 2, none⟩ = false := H.out.free 2
    cases ht : textR most b p with
    | ok q =>
      obtain ⟨t, j⟩ := q
      have Hst := Lib.hid (show stTxt most b p 0 = (t, j, 0) from by unfold stTxt; rw [if_pos rfl, ht])
      have Htl := Lib.hid (show t.length ≤ 140737488355328 from by
        obtain ⟨n, k, _, _, h3, h4, _⟩ := textR_ok ht
        have := hby.len.2
        rw [h4, List.length_take]; omega)
      have HT := Lib.hid (gettext_ok A b.length cp b p most t j w.drew (hby.only (Only.refl Non w).drew fun _ _ => id) (hp rfl) (inR_drop hb p) ht)
      rw [Hst.out]
      clear h hby hp hb ht
      have i0 : w.drew.cell? ⟨r, 0, none⟩ = some (.slice A b.length cp) := x0
      have i1 : w.drew.cell? ⟨r, 1, none⟩ = some (.int .i64 (p : Nat)) := x1
      go_enter Try.func24, Try.ntmps24
      go_upto_region 3 with fail
      refine wp_region_tail (S := (fun w' : World => w'.cell? ⟨r, 0, none⟩ = some (.slice A b.length cp) ∧ w'.cell? ⟨r, 1, none⟩ = some (.int .i64 (p : Nat)))) 16 (by kernel_rfl) (by kernel_rfl) ?_ ?_
      · refine ⟨?_, ?_⟩ <;> first | assumption | exact j0 | exact j1 | exact i0 | exact i1
      intro hSS
      refine wpHd_take (i := 0) (v := ?_) (by kernel_rfl) rfl (by kernel_rfl) (fun _ _ _ h => h) (Or.inl ⟨by rfl, ?_⟩) (by assumption) ?_
      rotate_left
      · intro w hSw; (try dsimp only at hSw); go_simp; (try with_reducible rfl)
      try simp only [Act.put, List.getElem_toArray, List.getElem_cons_succ, List.getElem_cons_zero, List.setIfInBounds_toArray, List.set_cons_zero, List.set_cons_succ]
      refine wpHd_take (i := 1) (v := ?_) (by kernel_rfl) rfl (by kernel_rfl) (fun _ _ _ h => h) (Or.inl ⟨by rfl, ?_⟩) (by assumption) ?_
      rotate_left
      · intro w hSw; (try dsimp only at hSw); go_simp; (try with_reducible rfl)
      try simp only [Act.put, List.getElem_toArray, List.getElem_cons_succ, List.getElem_cons_zero, List.setIfInBounds_toArray, List.set_cons_zero, List.set_cons_succ]
      refine wpHd_take (i := 2) (v := ?_) (by kernel_rfl) rfl (by kernel_rfl) (fun _ _ _ h => h) (Or.inl ⟨by rfl, ?_⟩) (by assumption) ?_
      rotate_left
      · intro w hSw; (try dsimp only at hSw); go_simp; (try with_reducible rfl)
      try simp only [Act.put, List.getElem_toArray, List.getElem_cons_succ, List.getElem_cons_zero, List.setIfInBounds_toArray, List.set_cons_zero, List.set_cons_succ]
      refine wpHd_take (i := 3) (v := ?_) (by kernel_rfl) rfl (by kernel_rfl) (fun _ _ _ h => h) (Or.inl ⟨by rfl, ?_⟩) (by assumption) ?_
      rotate_left
      · intro w hSw; (try dsimp only at hSw); go_simp; (try with_reducible rfl)
      try simp only [Act.put, List.getElem_toArray, List.getElem_cons_succ, List.getElem_cons_zero, List.setIfInBounds_toArray, List.set_cons_zero, List.set_cons_succ]
      refine wpHd_take (i := 4) (v := ?_) (by kernel_rfl) rfl (by kernel_rfl) (fun _ _ _ h => h) (Or.inl ⟨by rfl, ?_⟩) (by assumption) ?_
      rotate_left
      · intro w hSw; (try dsimp only at hSw); go_simp; (try with_reducible rfl)
      try simp only [Act.put, List.getElem_toArray, List.getElem_cons_succ, List.getElem_cons_zero, List.setIfInBounds_toArray, List.set_cons_zero, List.set_cons_succ]
      refine wpHd_take (i := 5) (v := ?_) (by kernel_rfl) rfl (by kernel_rfl) (fun _ _ _ h => h) (Or.inl ⟨by rfl, ?_⟩) (by assumption) ?_
      rotate_left
      · intro w hSw; (try dsimp only at hSw); go_simp; (try with_reducible rfl)
      try simp only [Act.put, List.getElem_toArray, List.getElem_cons_succ, List.getElem_cons_zero, List.setIfInBounds_toArray, List.set_cons_zero, List.set_cons_succ]
      refine wpHd_take (i := 6) (v := ?_) (by kernel_rfl) rfl (by kernel_rfl) (fun _ _ _ h => h) (Or.inl ⟨by rfl, ?_⟩) (by assumption) ?_
      rotate_left
      · intro w hSw; (try dsimp only at hSw); go_simp; (try with_reducible rfl)
      try simp only [Act.put, List.getElem_toArray, List.getElem_cons_succ, List.getElem_cons_zero, List.setIfInBounds_toArray, List.set_cons_zero, List.set_cons_succ]
      refine wpHd_take (i := 7) (v := ?_) (by kernel_rfl) rfl (by kernel_rfl) (fun _ _ _ h => h) (Or.inl ⟨by rfl, ?_⟩) (by assumption) ?_
      rotate_left
      · intro w hSw; (try dsimp only at hSw); go_simp; (try with_reducible rfl)
      try simp only [Act.put, List.getElem_toArray, List.getElem_cons_succ, List.getElem_cons_zero, List.setIfInBounds_toArray, List.set_cons_zero, List.set_cons_succ]
      refine wpHd_take (i := 8) (v := ?_) (by kernel_rfl) rfl (by kernel_rfl) (fun _ _ _ h => h) (Or.inl ⟨by rfl, ?_⟩) (by assumption) ?_
      rotate_left
      · intro w hSw; (try dsimp only at hSw); go_simp; (try with_reducible rfl)
      try simp only [Act.put, List.getElem_toArray, List.getElem_cons_succ, List.getElem_cons_zero, List.setIfInBounds_toArray, List.set_cons_zero, List.set_cons_succ]
      refine wpHd_one (i := 9) rfl (by kernel_rfl) (fun K hK => ?_)
      go_simp
      refine HT.out.mono ?_
      rintro e w3 ⟨v3, rfl, hrow3, ho3, hown3⟩
      have H3 := Lib.hid (And.intro hrow3 (And.intro ho3 hown3))
      have j0 := ho3.cell i0 id
      have j1 := ho3.cell i1 id
      clear hrow3 ho3 hown3
      refine hK.out _ _ ?_ (fun hSS => ?_)
      · refine ⟨?_, ?_⟩ <;> first | assumption | exact j0 | exact j1 | exact i0 | exact i1
      clear hK
      try simp only [Act.put, List.getElem_toArray, List.getElem_cons_succ, List.getElem_cons_zero, List.setIfInBounds_toArray, List.set_cons_zero, List.set_cons_succ]
      refine wpHd_take (i := 10) (v := ?_) (by kernel_rfl) rfl (by kernel_rfl) (fun _ _ _ h => h) (Or.inl ⟨by rfl, ?_⟩) (by assumption) ?_
      rotate_left
      · intro w hSw; (try dsimp only at hSw); go_simp; (try with_reducible rfl)
      try simp only [Act.put, List.getElem_toArray, List.getElem_cons_succ, List.getElem_cons_zero, List.setIfInBounds_toArray, List.set_cons_zero, List.set_cons_succ]
      refine wpHd_take (i := 11) (v := ?_) (by kernel_rfl) rfl (by kernel_rfl) (fun _ _ _ h => h) (Or.inl ⟨by rfl, ?_⟩) (by assumption) ?_
      rotate_left
      · intro w hSw; (try dsimp only at hSw); go_simp; (try with_reducible rfl)
      try simp only [Act.put, List.getElem_toArray, List.getElem_cons_succ, List.getElem_cons_zero, List.setIfInBounds_toArray, List.set_cons_zero, List.set_cons_succ]
      refine wpHd_take (i := 12) (v := ?_) (by kernel_rfl) rfl (by kernel_rfl) (fun _ _ _ h => h) (Or.inl ⟨by rfl, ?_⟩) (by assumption) ?_
      rotate_left
      · intro w hSw; (try dsimp only at hSw); go_simp; (try with_reducible rfl)
      try simp only [Act.put, List.getElem_toArray, List.getElem_cons_succ, List.getElem_cons_zero, List.setIfInBounds_toArray, List.set_cons_zero, List.set_cons_succ]
      refine wpHd_take (i := 13) (v := ?_) (by kernel_rfl) rfl (by kernel_rfl) (fun _ _ _ h => h) (Or.inl ⟨by rfl, ?_⟩) (by assumption) ?_
      rotate_left
      · intro w hSw; (try dsimp only at hSw); go_simp; (try with_reducible rfl)
      try simp only [Act.put, List.getElem_toArray, List.getElem_cons_succ, List.getElem_cons_zero, List.setIfInBounds_toArray, List.set_cons_zero, List.set_cons_succ]
      refine wpHd_take (i := 14) (v := ?_) (by kernel_rfl) rfl (by kernel_rfl) (fun _ _ _ h => h) (Or.inl ⟨by rfl, ?_⟩) (by assumption) ?_
      rotate_left
      · intro w hSw; (try dsimp only at hSw); go_simp; (try with_reducible rfl)
      try simp only [Act.put, List.getElem_toArray, List.getElem_cons_succ, List.getElem_cons_zero, List.setIfInBounds_toArray, List.set_cons_zero, List.set_cons_succ]
      refine wpHd_take (i := 15) (v := ?_) (by kernel_rfl) rfl (by kernel_rfl) (fun _ _ _ h => h) (Or.inl ⟨by rfl, ?_⟩) (by assumption) ?_
      rotate_left
      · intro w hSw; (try dsimp only at hSw); go_simp; (try with_reducible rfl)
      try simp only [Act.put, List.getElem_toArray, List.getElem_cons_succ, List.getElem_cons_zero, List.setIfInBounds_toArray, List.set_cons_zero, List.set_cons_succ]
      refine wpHd_end (by kernel_rfl) ?_
      clear hSS j0 j1 i0 i1
      have HR3 := Lib.hid (H3.out.2.1.box (show Box w.drew r 59 _ from H.out) id)
      have x0 : w3.cell? ⟨r, 0, none⟩ = some (.slice A b.length cp) := HR3.out.cellAt rfl
      have x1 : w3.cell? ⟨r, 1, none⟩ = some (.int .i64 (p : Nat)) := HR3.out.cellAt rfl
      have x2 : w3.cell? ⟨r, 2, none⟩ = some (.int .i64 0) := HR3.out.cellAt rfl
      have g1 : w3.frozen? ⟨r, 1, none⟩ = false := HR3.out.free 1
      have g2 : w3.frozen? ⟨r, 2, none⟩ = false := HR3.out.free 2
      go_wp2_with fail
      go_ret
      have ho3 : Only (Just r) w3 ((w3.setCell ⟨r, 1, none⟩ (.int .i64 (j : Nat))).setCell ⟨r, 2, none⟩ (.int .i64 0)) := ((Only.refl (Just r) w3).setCell (p := ⟨r, 1, none⟩) (.inl rfl) _).setCell (p := ⟨r, 2, none⟩) (.inl rfl) _
      refine ⟨v3, rfl, H3.out.1.only ho3 (fun k hk he => ?_), (HR3.out.store 1 _).store 2 _, ?_, H3.out.2.2⟩
      · have h1 := H3.out.2.2 k hk
        have h2 := Hlt.out
        have he : k = r := he
        rw [he] at h1
        exact Nat.lt_irrefl _ (Nat.lt_of_lt_of_le h2 h1)
      · exact (((Only.refl (Just r) w).drew).transN H3.out.2.1).trans ho3
    | error x =>
      have Hst := Lib.hid (show stTxt most b p 0 = ([], 0, x) from by unfold stTxt; rw [if_pos rfl, ht])
      have HT := Lib.hid (gettext_err A b.length cp b p most x w.drew (hby.only (Only.refl Non w).drew fun _ _ => id) (hp rfl) (inR_drop hb p) ht)
      rw [Hst.out]
      clear h hby hp hb ht
      have i0 : w.drew.cell? ⟨r, 0, none⟩ = some (.slice A b.length cp) := x0
      have i1 : w.drew.cell? ⟨r, 1, none⟩ = some (.int .i64 (p : Nat)) := x1
      go_enter Try.func24, Try.ntmps24
      go_upto_region 3 with fail
      refine wp_region_tail (S := (fun w' : World => w'.cell? ⟨r, 0, none⟩ = some (.slice A b.length cp) ∧ w'.cell? ⟨r, 1, none⟩ = some (.int .i64 (p : Nat)))) 16 (by kernel_rfl) (by kernel_rfl) ?_ ?_
      · refine ⟨?_, ?_⟩ <;> first | assumption | exact j0 | exact j1 | exact i0 | exact i1
      intro hSS
      refine wpHd_take (i := 0) (v := ?_) (by kernel_rfl) rfl (by kernel_rfl) (fun _ _ _ h => h) (Or.inl ⟨by rfl, ?_⟩) (by assumption) ?_
      rotate_left
      · intro w hSw; (try dsimp only at hSw); go_simp; (try with_reducible rfl)
      try simp only [Act.put, List.getElem_toArray, List.getElem_cons_succ, List.getElem_cons_zero, List.setIfInBounds_toArray, List.set_cons_zero, List.set_cons_succ]
      refine wpHd_take (i := 1) (v := ?_) (by kernel_rfl) rfl (by kernel_rfl) (fun _ _ _ h => h) (Or.inl ⟨by rfl, ?_⟩) (by assumption) ?_
      rotate_left
      · intro w hSw; (try dsimp only at hSw); go_simp; (try with_reducible rfl)
      try simp only [Act.put, List.getElem_toArray, List.getElem_cons_succ, List.getElem_cons_zero, List.setIfInBounds_toArray, List.set_cons_zero, List.set_cons_succ]
      refine wpHd_take (i := 2) (v := ?_) (by kernel_rfl) rfl (by kernel_rfl) (fun _ _ _ h => h) (Or.inl ⟨by rfl, ?_⟩) (by assumption) ?_
      rotate_left
      · intro w hSw; (try dsimp only at hSw); go_simp; (try with_reducible rfl)
      try simp only [Act.put, List.getElem_toArray, List.getElem_cons_succ, List.getElem_cons_zero, List.setIfInBounds_toArray, List.set_cons_zero, List.set_cons_succ]
      refine wpHd_take (i := 3) (v := ?_) (by kernel_rfl) rfl (by kernel_rfl) (fun _ _ _ h => h) (Or.inl ⟨by rfl, ?_⟩) (by assumption) ?_
      rotate_left
      · intro w hSw; (try dsimp only at hSw); go_simp; (try with_reducible rfl)
      try simp only [Act.put, List.getElem_toArray, List.getElem_cons_succ, List.getElem_cons_zero, List.setIfInBounds_toArray, List.set_cons_zero, List.set_cons_succ]
      refine wpHd_take (i := 4) (v := ?_) (by kernel_rfl) rfl (by kernel_rfl) (fun _ _ _ h => h) (Or.inl ⟨by rfl, ?_⟩) (by assumption) ?_
      rotate_left
      · intro w hSw; (try dsimp only at hSw); go_simp; (try with_reducible rfl)
      try simp only [Act.put, List.getElem_toArray, List.getElem_cons_succ, List.getElem_cons_zero, List.setIfInBounds_toArray, List.set_cons_zero, List.set_cons_succ]
      refine wpHd_take (i := 5) (v := ?_) (by kernel_rfl) rfl (by kernel_rfl) (fun _ _ _ h => h) (Or.inl ⟨by rfl, ?_⟩) (by assumption) ?_
      rotate_left
      · intro w hSw; (try dsimp only at hSw); go_simp; (try with_reducible rfl)
      try simp only [Act.put, List.getElem_toArray, List.getElem_cons_succ, List.getElem_cons_zero, List.setIfInBounds_toArray, List.set_cons_zero, List.set_cons_succ]
      refine wpHd_take (i := 6) (v := ?_) (by kernel_rfl) rfl (by kernel_rfl) (fun _ _ _ h => h) (Or.inl ⟨by rfl, ?_⟩) (by assumption) ?_
      rotate_left
      · intro w hSw; (try dsimp only at hSw); go_simp; (try with_reducible rfl)
      try simp only [Act.put, List.getElem_toArray, List.getElem_cons_succ, List.getElem_cons_zero, List.setIfInBounds_toArray, List.set_cons_zero, List.set_cons_succ]
      refine wpHd_take (i := 7) (v := ?_) (by kernel_rfl) rfl (by kernel_rfl) (fun _ _ _ h => h) (Or.inl ⟨by rfl, ?_⟩) (by assumption) ?_
      rotate_left
      · intro w hSw; (try dsimp only at hSw); go_simp; (try with_reducible rfl)
      try simp only [Act.put, List.getElem_toArray, List.getElem_cons_succ, List.getElem_cons_zero, List.setIfInBounds_toArray, List.set_cons_zero, List.set_cons_succ]
      refine wpHd_take (i := 8) (v := ?_) (by kernel_rfl) rfl (by kernel_rfl) (fun _ _ _ h => h) (Or.inl ⟨by rfl, ?_⟩) (by assumption) ?_
      rotate_left
      · intro w hSw; (try dsimp only at hSw); go_simp; (try with_reducible rfl)
      try simp only [Act.put, List.getElem_toArray, List.getElem_cons_succ, List.getElem_cons_zero, List.setIfInBounds_toArray, List.set_cons_zero, List.set_cons_succ]
      refine wpHd_one (i := 9) rfl (by kernel_rfl) (fun K hK => ?_)
      go_simp
      refine HT.out.mono ?_
      rintro e w3 ⟨rfl, e3⟩
      rw [← e3]
      clear e3
      refine hK.out _ _ ?_ (fun hSS => ?_)
      · refine ⟨?_, ?_⟩ <;> first | assumption | exact j0 | exact j1 | exact i0 | exact i1
      clear hK
      try simp only [Act.put, List.getElem_toArray, List.getElem_cons_succ, List.getElem_cons_zero, List.setIfInBounds_toArray, List.set_cons_zero, List.set_cons_succ]
      refine wpHd_take (i := 10) (v := ?_) (by kernel_rfl) rfl (by kernel_rfl) (fun _ _ _ h => h) (Or.inl ⟨by rfl, ?_⟩) (by assumption) ?_
      rotate_left
      · intro w hSw; (try dsimp only at hSw); go_simp; (try with_reducible rfl)
      try simp only [Act.put, List.getElem_toArray, List.getElem_cons_succ, List.getElem_cons_zero, List.setIfInBounds_toArray, List.set_cons_zero, List.set_cons_succ]
      refine wpHd_take (i := 11) (v := ?_) (by kernel_rfl) rfl (by kernel_rfl) (fun _ _ _ h => h) (Or.inl ⟨by rfl, ?_⟩) (by assumption) ?_
      rotate_left
      · intro w hSw; (try dsimp only at hSw); go_simp; (try with_reducible rfl)
      try simp only [Act.put, List.getElem_toArray, List.getElem_cons_succ, List.getElem_cons_zero, List.setIfInBounds_toArray, List.set_cons_zero, List.set_cons_succ]
      refine wpHd_take (i := 12) (v := ?_) (by kernel_rfl) rfl (by kernel_rfl) (fun _ _ _ h => h) (Or.inl ⟨by rfl, ?_⟩) (by assumption) ?_
      rotate_left
      · intro w hSw; (try dsimp only at hSw); go_simp; (try with_reducible rfl)
      try simp only [Act.put, List.getElem_toArray, List.getElem_cons_succ, List.getElem_cons_zero, List.setIfInBounds_toArray, List.set_cons_zero, List.set_cons_succ]
      refine wpHd_take (i := 13) (v := ?_) (by kernel_rfl) rfl (by kernel_rfl) (fun _ _ _ h => h) (Or.inl ⟨by rfl, ?_⟩) (by assumption) ?_
      rotate_left
      · intro w hSw; (try dsimp only at hSw); go_simp; (try with_reducible rfl)
      try simp only [Act.put, List.getElem_toArray, List.getElem_cons_succ, List.getElem_cons_zero, List.setIfInBounds_toArray, List.set_cons_zero, List.set_cons_succ]
      refine wpHd_take (i := 14) (v := ?_) (by kernel_rfl) rfl (by kernel_rfl) (fun _ _ _ h => h) (Or.inl ⟨by rfl, ?_⟩) (by assumption) ?_
      rotate_left
      · intro w hSw; (try dsimp only at hSw); go_simp; (try with_reducible rfl)
      try simp only [Act.put, List.getElem_toArray, List.getElem_cons_succ, List.getElem_cons_zero, List.setIfInBounds_toArray, List.set_cons_zero, List.set_cons_succ]
      refine wpHd_take (i := 15) (v := ?_) (by kernel_rfl) rfl (by kernel_rfl) (fun _ _ _ h => h) (Or.inl ⟨by rfl, ?_⟩) (by assumption) ?_
      rotate_left
      · intro w hSw; (try dsimp only at hSw); go_simp; (try with_reducible rfl)
      try simp only [Act.put, List.getElem_toArray, List.getElem_cons_succ, List.getElem_cons_zero, List.setIfInBounds_toArray, List.set_cons_zero, List.set_cons_succ]
      refine wpHd_end (by kernel_rfl) ?_
      clear hSS i0 i1 x0 x1 x2 g1 g2
      have HR3 := Lib.hid (show Box w.drew r 59 _ from H.out)
      have Ho3 := Lib.hid ((Only.refl (Just r) w).drew)
      generalize w.drew = w3 at *
      have x0 : w3.cell? ⟨r, 0, none⟩ = some (.slice A b.length cp) := HR3.out.cellAt rfl
      have x1 : w3.cell? ⟨r, 1, none⟩ = some (.int .i64 (p : Nat)) := HR3.out.cellAt rfl
      have x2 : w3.cell? ⟨r, 2, none⟩ = some (.int .i64 0) := HR3.out.cellAt rfl
      have g1 : w3.frozen? ⟨r, 1, none⟩ = false := HR3.out.free 1
      have g2 : w3.frozen? ⟨r, 2, none⟩ = false := HR3.out.free 2
      go_wp2_with fail
      go_ret
      exact ⟨_, rfl, Row.nil_ _ _, (HR3.out.store 1 _).store 2 _, (Ho3.out.setCell (p := ⟨r, 1, none⟩) (.inl rfl) _).setCell (p := ⟨r, 2, none⟩) (.inl rfl) _, fun k hk => (ownB_none hk).elim⟩
  · have Hst := Lib.hid (show stTxt most b p e = ([], p, e) from by unfold stTxt; rw [if_neg he])
    have hne : (e != 0) = true := by simp [he]
    clear h hby hp hb he
    have x2 : w.cell? ⟨r, 2, none⟩ = some (.int .i64 e) := H.out.cellAt rfl
    rw [Hst.out]
    go_enter Try.func24, Try.ntmps24
    go_wp2_with fail
    go_ret
    exact ⟨_, rfl, Row.nil_ _ _, H.out, Only.refl _ _, fun k hk => (ownB_none hk).elim⟩
end
end Go.Proofs.Ytaofjnpmnaohcaa
