/- The reader's steps, one behind the other, are the plain reader of an act. No walk. -/
import Derived.Test.YtaofjnpmnaohcaaRdrA
namespace Go.Proofs.Ytaofjnpmnaohcaa
open Go.RowKit
set_option linter.unusedVariables false
set_option linter.unusedSimpArgs false
theorem numR_le {b : List Int} {p n j : Nat} (hp : p ≤ b.length) (h : numR b p = .ok (n, j)) : j ≤ b.length := by
  obtain ⟨k, hk, rfl⟩ := numR_ok h
  exact rd_le hp hk
theorem textR_le {most : Nat} {b t : List Int} {p j : Nat} (hp : p ≤ b.length) (h : textR most b p = .ok (t, j)) : j ≤ b.length := by
  obtain ⟨n, k, h1, _, h3, _, rfl⟩ := textR_ok h
  have := rd_le hp h1
  omega
theorem numR_ne {b : List Int} {p : Nat} {x : Int} (h : numR b p = .error x) : x ≠ 0 := by
  rcases numR_err h with ⟨_, rfl⟩ | ⟨_, rfl⟩ <;> decide
theorem textR_ne {most : Nat} {b : List Int} {p : Nat} {x : Int} (h : textR most b p = .error x) : x ≠ 0 := by
  rcases textR_err h with ⟨_, rfl⟩ | ⟨_, rfl⟩ | ⟨_, _, _, _, rfl⟩ | ⟨_, _, _, _, _, rfl⟩ <;> decide
theorem stNum_off {b : List Int} {p : Nat} {e : Int} (he : e ≠ 0) : stNum b p e = (0, p, e) := by unfold stNum; rw [if_neg he]
theorem stNum_ok {b : List Int} {p n j : Nat} (h : numR b p = .ok (n, j)) : stNum b p 0 = (n, j, 0) := by unfold stNum; rw [if_pos rfl, h]
theorem stNum_err {b : List Int} {p : Nat} {x : Int} (h : numR b p = .error x) : stNum b p 0 = (0, 0, x) := by unfold stNum; rw [if_pos rfl, h]
theorem stTxt_off {most : Nat} {b : List Int} {p : Nat} {e : Int} (he : e ≠ 0) : stTxt most b p e = ([], p, e) := by unfold stTxt; rw [if_neg he]
theorem stTxt_ok {most : Nat} {b t : List Int} {p j : Nat} (h : textR most b p = .ok (t, j)) : stTxt most b p 0 = (t, j, 0) := by unfold stTxt; rw [if_pos rfl, h]
theorem stTxt_err {most : Nat} {b : List Int} {p : Nat} {x : Int} (h : textR most b p = .error x) : stTxt most b p 0 = ([], 0, x) := by unfold stTxt; rw [if_pos rfl, h]
theorem stSgn_off {b : List Int} {p : Nat} {e : Int} (he : e ≠ 0) : (stSgn b p e).2.2 = e := by
  unfold stSgn
  rw [stNum_off he, if_neg (fun h => he h.1)]
theorem stSgn_zero {b : List Int} {p : Nat} : match signedR b p with | .ok (v, j) => stSgn b p 0 = (v, j, 0) | .error x => (stSgn b p 0).2.2 = x ∧ x ≠ 0 := by
  unfold signedR thenR stSgn
  cases hn : numR b p with
  | ok q =>
    obtain ⟨n, j⟩ := q
    rw [stNum_ok hn]
    simp only
    by_cases h0 : n = 0
    · rw [if_pos h0, if_pos ⟨trivial, h0⟩]
      exact ⟨rfl, by decide⟩
    · rw [if_neg h0, if_neg (fun h => h0 h.2)]
      rfl
  | error x =>
    rw [stNum_err hn]
    simp only
    have hx := numR_ne hn
    rw [if_neg (fun h => hx h.1)]
    exact ⟨rfl, hx⟩
theorem stSgn_ok {b : List Int} {p j : Nat} {v : Int} (h : signedR b p = .ok (v, j)) : stSgn b p 0 = (v, j, 0) := by
  have := @stSgn_zero b p
  rw [h] at this
  exact this
theorem stSgn_err {b : List Int} {p : Nat} {x : Int} (h : signedR b p = .error x) : (stSgn b p 0).2.2 = x ∧ x ≠ 0 := by
  have := @stSgn_zero b p
  rw [h] at this
  exact this
def stAct (b : List Int) (p : Nat) : ActR × Nat × Int :=
  let K := stNum b p 0
  let A := stSgn b K.2.1 K.2.2
  let B := stSgn b A.2.1 A.2.2
  let N := stSgn b B.2.1 B.2.2
  let D := stTxt 64 b N.2.1 N.2.2
  (⟨K.1, A.1, B.1, N.1, D.1⟩, D.2.1, D.2.2)
theorem stAct_spec (b : List Int) (p : Nat) : match actR b p with | .ok (a, j) => stAct b p = (a, j, 0) | .error x => (stAct b p).2.2 = x ∧ x ≠ 0 := by
  unfold actR stAct
  simp only [thenR, retR]
  cases hk : numR b p with
  | error x =>
    have hx := numR_ne hk
    simp only [stNum_err hk]
    have ha := @stSgn_off b 0 x hx
    have hb := @stSgn_off b (stSgn b 0 x).2.1 (stSgn b 0 x).2.2 (by rw [ha]; exact hx)
    rw [ha] at hb
    simp only [ha]
    have hn := @stSgn_off b (stSgn b (stSgn b 0 x).2.1 x).2.1 x hx
    simp only [hb, hn, stTxt_off hx]
    exact ⟨trivial, hx⟩
  | ok q =>
    obtain ⟨k, j⟩ := q
    simp only [stNum_ok hk]
    cases ha : signedR b j with
    | error x =>
      obtain ⟨hs, hx⟩ := stSgn_err ha
      simp only [hs]
      have hb := @stSgn_off b (stSgn b j 0).2.1 x hx
      have hn := @stSgn_off b (stSgn b (stSgn b j 0).2.1 x).2.1 x hx
      simp only [hb, hn, stTxt_off hx]
      exact ⟨trivial, hx⟩
    | ok q =>
      obtain ⟨a, j⟩ := q
      simp only [stSgn_ok ha]
      cases hb : signedR b j with
      | error x =>
        obtain ⟨hs, hx⟩ := stSgn_err hb
        simp only [hs]
        have hn := @stSgn_off b (stSgn b j 0).2.1 x hx
        simp only [hn, stTxt_off hx]
        exact ⟨trivial, hx⟩
      | ok q =>
        obtain ⟨a2, j⟩ := q
        simp only [stSgn_ok hb]
        cases hc : signedR b j with
        | error x =>
          obtain ⟨hs, hx⟩ := stSgn_err hc
          simp only [hs, stTxt_off hx]
          exact ⟨trivial, hx⟩
        | ok q =>
          obtain ⟨a3, j⟩ := q
          simp only [stSgn_ok hc]
          cases hd : textR 64 b j with
          | error x => simp only [stTxt_err hd]; exact ⟨trivial, textR_ne hd⟩
          | ok q => obtain ⟨t, j⟩ := q; simp only [stTxt_ok hd]
theorem stAct_ok {b : List Int} {p : Nat} (h : (stAct b p).2.2 = 0) : actR b p = .ok ((stAct b p).1, (stAct b p).2.1) := by
  have := stAct_spec b p
  cases ha : actR b p with
  | ok q => rw [ha] at this; obtain ⟨a, j⟩ := q; simp only at this; rw [this]
  | error x => rw [ha] at this; simp only at this; exact absurd (this.1.symm.trans h) this.2
theorem stAct_err {b : List Int} {p : Nat} (h : (stAct b p).2.2 ≠ 0) : actR b p = .error (stAct b p).2.2 := by
  have := stAct_spec b p
  cases ha : actR b p with
  | ok q => rw [ha] at this; obtain ⟨a, j⟩ := q; simp only at this; rw [this] at h; exact absurd rfl h
  | error x => rw [ha] at this; simp only at this; rw [this.1]
theorem stNum_le {b : List Int} {p : Nat} {e : Int} (hp : e = 0 → p ≤ b.length) (h : (stNum b p e).2.2 = 0) : (stNum b p e).2.1 ≤ b.length := by
  by_cases he : e = 0
  · subst he
    cases hn : numR b p with
    | ok q => obtain ⟨n, j⟩ := q; rw [stNum_ok hn]; exact numR_le (hp rfl) hn
    | error x => rw [stNum_err hn] at h; exact absurd h (numR_ne hn)
  · rw [stNum_off he] at h; exact absurd h he
theorem stSgn_le {b : List Int} {p : Nat} {e : Int} (hp : e = 0 → p ≤ b.length) (h : (stSgn b p e).2.2 = 0) : (stSgn b p e).2.1 ≤ b.length := by
  unfold stSgn at h ⊢
  split at h
  · exact absurd (show (2 : Int) = 0 from h) (by decide)
  · rename_i hc
    rw [if_neg hc]
    exact stNum_le hp h
theorem stTxt_le {most : Nat} {b : List Int} {p : Nat} {e : Int} (hp : e = 0 → p ≤ b.length) (h : (stTxt most b p e).2.2 = 0) : (stTxt most b p e).2.1 ≤ b.length := by
  by_cases he : e = 0
  · subst he
    cases hn : textR most b p with
    | ok q => obtain ⟨n, j⟩ := q; rw [stTxt_ok hn]; exact textR_le (hp rfl) hn
    | error x => rw [stTxt_err hn] at h; exact absurd h (textR_ne hn)
  · rw [stTxt_off he] at h; exact absurd h he
theorem stTxt_len {most : Nat} {b : List Int} {p : Nat} {e : Int} : (stTxt most b p e).1.length ≤ most := by
  by_cases he : e = 0
  · subst he
    cases hn : textR most b p with
    | ok q =>
      obtain ⟨n, j⟩ := q
      rw [stTxt_ok hn]
      obtain ⟨n', k, _, h2, _, h4, _⟩ := textR_ok hn
      rw [h4, List.length_take]; omega
    | error x => rw [stTxt_err hn]; exact Nat.zero_le _
  · rw [stTxt_off he]; exact Nat.zero_le _
theorem actsR_succ {b : List Int} {j p : Nat} {k : Nat} {l : List ActR} (h : actsR k b j = .ok (l, p)) : actsR (k + 1) b j = match actR b p with | .ok (a, q) => .ok (l ++ [a], q) | .error x => .error x := by
  show thenR (actsR k) _ b j = _
  unfold thenR
  rw [h]
  simp only
  show thenR actR _ b p = _
  unfold thenR
  cases actR b p with
  | ok q => obtain ⟨a, q⟩ := q; rfl
  | error x => rfl
theorem actsR_more {b : List Int} {j : Nat} {x : Int} : ∀ (m k : Nat), actsR k b j = .error x → actsR (k + m) b j = .error x
  | 0, k, h => h
  | m + 1, k, h => by
    show thenR (actsR (k + m)) _ b j = _
    unfold thenR
    rw [actsR_more m k h]
theorem actsR_len {b : List Int} {j : Nat} : ∀ (k : Nat) (l : List ActR) (p : Nat), actsR k b j = .ok (l, p) → l.length = k
  | 0, l, p, h => by
    have h : (Except.ok ([], j) : Except Int (List ActR × Nat)) = .ok (l, p) := h
    injection h with h
    injection h with h _
    rw [← h]; rfl
  | k + 1, l, p, h => by
    cases hk : actsR k b j with
    | error x => rw [actsR_more 1 k hk] at h; cases h
    | ok q =>
      obtain ⟨l', p'⟩ := q
      rw [actsR_succ hk] at h
      cases ha : actR b p' with
      | error x => rw [ha] at h; cases h
      | ok q =>
        obtain ⟨a, q⟩ := q
        rw [ha] at h
        injection h with h
        injection h with h _
        rw [← h, List.length_append, actsR_len k l' p' hk]
        rfl
end Go.Proofs.Ytaofjnpmnaohcaa
