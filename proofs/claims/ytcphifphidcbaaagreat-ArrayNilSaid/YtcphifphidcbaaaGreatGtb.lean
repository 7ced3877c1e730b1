/- raw.GetText. -/
import Derived.Test.YtcphifphidcbaaaGreatGetA
namespace Go.Proofs.YtcphifphidcbaaaGreat
open Go.RowKit
set_option linter.unusedVariables false
set_option linter.unusedSimpArgs false
theorem rdN_le : ∀ (l : List Int) (i acc n k : Nat), rdN l i acc = .ok n k → k ≤ i + l.length
  | [], _, _, _, _, h => by simp [rdN] at h
  | c :: cs, i, acc, n, k, h => by
    rw [rdN] at h
    split at h
    · split at h
      · cases h
      · have := rdN_le cs (i + 1) _ n k h
        simp; omega
    · split at h
      · cases h
      · injection h with h1 h2
        simp; omega
theorem rd_le {b : List Int} {p n k : Nat} (hp : p ≤ b.length) (h : rd (b.drop p) = .ok n k) : p + k ≤ b.length := by
  have := rdN_le _ _ _ _ _ h
  rw [List.length_drop] at this
  omega
theorem textR_ok {most : Nat} {b t : List Int} {p j : Nat} (h : textR most b p = .ok (t, j)) :
    ∃ n k, rd (b.drop p) = .ok n k ∧ n ≤ most ∧ n ≤ b.length - (p + k) ∧ t = (b.drop (p + k)).take n ∧ j = p + k + n := by
  unfold textR thenR numR at h
  cases hr : rd (b.drop p) with
  | ok n k =>
    rw [hr] at h
    simp only at h
    split at h
    · simp [failR] at h
    · simp only [takeR] at h
      split at h
      · cases h
      · injection h with h
        injection h with h1 h2
        exact ⟨n, k, rfl, by omega, by omega, h1.symm, h2.symm⟩
  | short => rw [hr] at h; cases h
  | form => rw [hr] at h; cases h
theorem textR_err {most : Nat} {b : List Int} {p : Nat} {x : Int} (h : textR most b p = .error x) :
    (rd (b.drop p) = .short ∧ x = 1) ∨ (rd (b.drop p) = .form ∧ x = 2) ∨ (∃ n k, rd (b.drop p) = .ok n k ∧ most < n ∧ x = 4) ∨ ∃ n k, rd (b.drop p) = .ok n k ∧ n ≤ most ∧ b.length - (p + k) < n ∧ x = 1 := by
  unfold textR thenR numR at h
  cases hr : rd (b.drop p) with
  | ok n k =>
    rw [hr] at h
    simp only at h
    split at h
    · injection h with h
      exact .inr (.inr (.inl ⟨n, k, rfl, by assumption, h.symm⟩))
    · simp only [takeR] at h
      split at h
      · injection h with h
        exact .inr (.inr (.inr ⟨n, k, rfl, by omega, by assumption, h.symm⟩))
      · cases h
  | short => rw [hr] at h; injection h with h; exact .inl ⟨rfl, h.symm⟩
  | form => rw [hr] at h; injection h with h; exact .inr (.inl ⟨rfl, h.symm⟩)
theorem Byt.sub {w : World} {g o c : Nat} {b : List Int} (h : Byt w (.slice (some ⟨g, o, none⟩) b.length c) b) {q n : Nat} (hq : q + n ≤ b.length) :
    Byt w (.slice (some ⟨g, o + q, none⟩) n (c - q)) ((b.drop q).take n) := by
  obtain ⟨A, c', e, h1, h2, h3⟩ := h
  injection e with e1 e2 e3
  subst e1 e3
  have hl : ((b.drop q).take n).length = n := by rw [List.length_take, List.length_drop]; omega
  refine ⟨_, c - q, by rw [hl], by omega, by omega, fun j u hj => ?_⟩
  have hj' : j < n := by
    rcases Nat.lt_or_ge j n with h | h
    · exact h
    · rw [List.getElem?_eq_none (by rw [List.length_map, hl]; exact h)] at hj; cases hj
  obtain ⟨g', o', e', hc⟩ := h3 (q + j) u (by
    rw [List.getElem?_map] at hj ⊢
    rw [List.getElem?_take_of_lt hj', List.getElem?_drop] at hj
    exact hj)
  injection e' with e'
  injection e' with e1 e2
  subst e1 e2
  exact ⟨_, _, rfl, by rw [Nat.add_assoc]; exact hc⟩
section
set_option maxHeartbeats 2000000
set_option maxRecDepth 100000
theorem gettext_err (A : Option Addr) (n c : Nat) (b : List Int) (p most : Nat) (x : Int) (w : World) (h : Byt w (.slice A n c) b) (hp : p ≤ b.length) (hr : inR (b.drop p) 0) (he : textR most b p = .error x) :
    Calls Tryz.prog 162 #[.slice A n c, .int .i64 p, .int .i64 most] w fun e w' => e = .returned (.tuple #[.slice none 0 0, .int .i64 0, .int .i64 x]) ∧ w = w' := by
  have HG := Lib.hid (rawget_any A n c b p w h hp hr)
  have hl := h.len
  have hnl := hl.1
  subst hnl
  rcases textR_err he with ⟨h1, rfl⟩ | ⟨h1, rfl⟩ | ⟨m, k, h1, h2, rfl⟩ | ⟨m, k, h1, h2, h3, rfl⟩
  · rw [getV_short h1] at HG
    clear he h1 h hr
    go_enter Tryz.func162, Tryz.ntmps162
    go_wp2_with fail
    refine HG.out.mono ?_
    rintro e w5 ⟨rfl, e5⟩
    rw [← e5]
    clear e5
    go_wp2_with fail
    go_ret3
    exact ⟨rfl, rfl⟩
  · rw [getV_form h1] at HG
    clear he h1 h hr
    go_enter Tryz.func162, Tryz.ntmps162
    go_wp2_with fail
    refine HG.out.mono ?_
    rintro e w5 ⟨rfl, e5⟩
    rw [← e5]
    clear e5
    go_wp2_with fail
    go_ret3
    exact ⟨rfl, rfl⟩
  · rw [getV_ok h1] at HG
    have h4 : (most : Int) < m := by omega
    clear he h1 h hr
    generalize p + k = q at *
    go_enter Tryz.func162, Tryz.ntmps162
    go_wp2_with fail
    refine HG.out.mono ?_
    rintro e w5 ⟨rfl, e5⟩
    rw [← e5]
    clear e5
    go_wp2_with fail
    go_ret3
    exact ⟨rfl, rfl⟩
  · rw [getV_ok h1] at HG
    have h4 : ¬ (most : Int) < m := by omega
    have h5 := rd_le hp h1
    generalize p + k = q at *
    have h6 : (b.length : Int) - q < m := by omega
    clear he h1 h hr
    go_enter Tryz.func162, Tryz.ntmps162
    go_wp2_with fail
    refine HG.out.mono ?_
    rintro e w5 ⟨rfl, e5⟩
    rw [← e5]
    clear e5
    go_wp2_with fail
    go_ret3
    exact ⟨rfl, rfl⟩
theorem gettext_ok (A : Option Addr) (n c : Nat) (b : List Int) (p most : Nat) (t : List Int) (j : Nat) (w : World) (h : Byt w (.slice A n c) b) (hp : p ≤ b.length) (hr : inR (b.drop p) 0) (he : textR most b p = .ok (t, j)) :
    Calls Tryz.prog 162 #[.slice A n c, .int .i64 p, .int .i64 most] w fun e w' => ∃ v, e = .returned (.tuple #[v, .int .i64 j, .int .i64 0]) ∧ Row 5 w' v (bytes t) ∧ Only Non w w' ∧ ∀ k, ownB v k → w.heap.size ≤ k := by
  have HG := Lib.hid (rawget_any A n c b p w h hp hr)
  have hl := h.len
  have hnl := hl.1
  subst hnl
  obtain ⟨m, k, h1, h2, h3, h4, h5⟩ := textR_ok he
  rw [getV_ok h1] at HG
  have h6 := rd_le hp h1
  have hb0 : 0 < b.length := by
    rcases Nat.eq_zero_or_pos b.length with h0 | h0
    · rw [List.eq_nil_of_length_eq_zero h0, List.drop_nil] at h1; cases h1
    · exact h0
  obtain ⟨g, o, rfl, _⟩ := h.cellAt hb0
  have hcap : b.length ≤ c := by
    obtain ⟨A', c', e, h1, _⟩ := h
    injection e with _ _ e3
    omega
  have HS := Lib.hid (h.sub (q := p + k) (n := m) (by omega))
  have h7 : ¬ (most : Int) < m := by omega
  rw [← h4] at HS
  have HS0 := Lib.hid (show c - (p + k) = 0 → Byt w (.slice (some ⟨g, o, none⟩) m 0) t from fun h0 => by
    have hm : m = 0 := by omega
    rw [hm, List.take_zero] at h4
    rw [h4, hm]
    exact ⟨_, 0, rfl, Nat.le_refl _, Nat.zero_le _, Src.nil_ _ _⟩)
  have Hj := Lib.hid h5
  clear he h1 h hr h4 h5 hp
  generalize p + k = q at *
  have h8 : ¬ (b.length : Int) - q < m := by omega
  have h10 : q + m ≤ b.length := by omega
  have h11 : q + m ≤ c := by omega
  have h12 : q ≤ q + m := by omega
  have h13 : q + m - q = m := by omega
  obtain ⟨S, hS⟩ : ∃ S, S = q + m := ⟨_, rfl⟩
  have h9 : (q : Int) + m = S := by omega
  rw [← hS] at h10 h11 h12 h13
  rw [← hS] at Hj
  have HS2 := Lib.hid hS
  clear hS
  go_enter Tryz.func162, Tryz.ntmps162
  go_wp2_with fail
  refine HG.out.mono ?_
  rintro e w5 ⟨rfl, e5⟩
  rw [← e5]
  clear e5
  have Hjj := Lib.hid (show (j : Int) = S from by rw [Hj.out])
  by_cases hcq : c - q = 0
  · have HS' := Lib.hid (HS0.out hcq)
    have hcq2 : c ≤ q := by omega
    go_wp2_with fail
    refine (clone_any _ t w HS'.out).mono ?_
    rintro e w6 ⟨v6, rfl, hrow, ho, hown⟩
    have HF := Lib.hid (And.intro hrow (And.intro ho hown))
    clear hrow ho hown
    go_wp2_with fail
    go_ret3
    exact ⟨v6, by rw [Hjj.out]; rfl, HF.out.1, HF.out.2.1, HF.out.2.2⟩
  · have hcq2 : ¬ c ≤ q := by omega
    go_wp2_with fail
    refine (clone_any _ t w HS.out).mono ?_
    rintro e w6 ⟨v6, rfl, hrow, ho, hown⟩
    have HF := Lib.hid (And.intro hrow (And.intro ho hown))
    clear hrow ho hown
    go_wp2_with fail
    go_ret3
    exact ⟨v6, by rw [Hjj.out]; rfl, HF.out.1, HF.out.2.1, HF.out.2.2⟩
end
end Go.Proofs.YtcphifphidcbaaaGreat
