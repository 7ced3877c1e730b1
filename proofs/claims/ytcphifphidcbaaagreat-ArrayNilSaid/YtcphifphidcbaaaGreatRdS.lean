/- Numbers and texts that are read from bytes, as states: plain. -/
import Derived.Test.YtcphifphidcbaaaGreatGtb
namespace Go.Proofs.YtcphifphidcbaaaGreat
open Go.RowKit
set_option linter.unusedVariables false
set_option linter.unusedSimpArgs false
def stNum (b : List Int) (p : Nat) (e : Int) : Nat × Nat × Int := if e = 0 then match numR b p with | .ok (n, j) => (n, j, 0) | .error x => (0, 0, x) else (0, p, e)
def stSgn (b : List Int) (p : Nat) (e : Int) : Int × Nat × Int := if (stNum b p e).2.2 = 0 ∧ (stNum b p e).1 = 0 then (0, (stNum b p e).2.1, 2) else (unfoldedN (stNum b p e).1, (stNum b p e).2.1, (stNum b p e).2.2)
def stTxt (most : Nat) (b : List Int) (p : Nat) (e : Int) : List Int × Nat × Int := if e = 0 then match textR most b p with | .ok (t, j) => (t, j, 0) | .error x => ([], 0, x) else ([], p, e)
def IsB (b : List Int) : Prop := ∀ x ∈ b, 0 ≤ x ∧ x ≤ 255
theorem inR_all : ∀ (b : List Int) (i : Nat), IsB b → inR b i
  | [], _, _ => trivial
  | c :: cs, i, h => ⟨h c (List.mem_cons_self ..), fun _ _ => inR_all cs (i + 1) fun x hx => h x (List.mem_cons_of_mem _ hx)⟩
theorem inR_drop {b : List Int} (h : IsB b) (p : Nat) : inR (b.drop p) 0 := inR_all _ _ fun x hx => h x (List.mem_of_mem_drop hx)
theorem rdN_lt : ∀ (l : List Int) (i acc n k : Nat), IsB l → i ≤ 8 → acc < 128 ^ i → rdN l i acc = .ok n k → n < 2 ^ 63
  | [], _, _, _, _, _, _, _, h => by simp [rdN] at h
  | c :: cs, i, acc, n, k, hb, hi, ha, h => by
    have hc := hb c (List.mem_cons_self ..)
    rw [rdN] at h
    split at h
    · split at h
      · cases h
      · refine rdN_lt cs (i + 1) _ n k (fun x hx => hb x (List.mem_cons_of_mem _ hx)) (by omega) ?_ h
        rw [Nat.pow_succ]
        have := Nat.mul_le_mul_right (128 ^ i) (show c.toNat % 128 ≤ 127 by omega)
        omega
    · split at h
      · cases h
      · injection h with h1 h2
        have := (or63 acc c.toNat i ha (by omega) hi).1
        omega
theorem rd_lt63 {b : List Int} {p n k : Nat} (hb : IsB b) (h : rd (b.drop p) = .ok n k) : n < 2 ^ 63 :=
  rdN_lt _ 0 0 n k (fun x hx => hb x (List.mem_of_mem_drop hx)) (by decide) (by decide) h
theorem numR_ok {b : List Int} {p n j : Nat} (h : numR b p = .ok (n, j)) : ∃ k, rd (b.drop p) = .ok n k ∧ j = p + k := by
  unfold numR at h
  cases hr : rd (b.drop p) with
  | ok m k => rw [hr] at h; injection h with h; injection h with h1 h2; exact ⟨k, by rw [h1], h2.symm⟩
  | short => rw [hr] at h; cases h
  | form => rw [hr] at h; cases h
theorem numR_err {b : List Int} {p : Nat} {x : Int} (h : numR b p = .error x) : (rd (b.drop p) = .short ∧ x = 1) ∨ (rd (b.drop p) = .form ∧ x = 2) := by
  unfold numR at h
  cases hr : rd (b.drop p) with
  | ok m k => rw [hr] at h; cases h
  | short => rw [hr] at h; injection h with h; exact .inl ⟨rfl, h.symm⟩
  | form => rw [hr] at h; injection h with h; exact .inr ⟨rfl, h.symm⟩
theorem getV_num {b : List Int} {p : Nat} : getV b p = .tuple #[.int .i64 ((stNum b p 0).1 : Nat), .int .i64 ((stNum b p 0).2.1 : Nat), .int .i64 (stNum b p 0).2.2] := by
  unfold stNum
  rw [if_pos rfl]
  cases hn : numR b p with
  | ok q => obtain ⟨n, j⟩ := q; obtain ⟨k, hk, rfl⟩ := numR_ok hn; rw [getV_ok hk]
  | error x =>
    rcases numR_err hn with ⟨h, rfl⟩ | ⟨h, rfl⟩
    · rw [getV_short h]; rfl
    · rw [getV_form h]; rfl
theorem numR_le {b : List Int} {p n j : Nat} (hp : p ≤ b.length) (h : numR b p = .ok (n, j)) : j ≤ b.length := by
  obtain ⟨k, hk, rfl⟩ := numR_ok h
  exact rd_le hp hk
theorem textR_le {most : Nat} {b t : List Int} {p j : Nat} (hp : p ≤ b.length) (h : textR most b p = .ok (t, j)) : j ≤ b.length := by
  obtain ⟨n, k, h1, _, h3, _, rfl⟩ := textR_ok h
  have := rd_le hp h1
  omega
theorem numR_ne {b : List Int} {p : Nat} {x : Int} (h : numR b p = .error x) : x ≠ 0 := by
  rcases numR_err h with ⟨_, rfl⟩ | ⟨_, rfl⟩ <;> decide
theorem textR_ne {most : Nat} {b : List Int} {p : Nat} {x : Int} (h : textR most b p = .error x) : x ≠ 0 := by
  rcases textR_err h with ⟨_, rfl⟩ | ⟨_, rfl⟩ | ⟨_, _, _, _, rfl⟩ | ⟨_, _, _, _, _, rfl⟩ <;> decide
theorem stNum_off {b : List Int} {p : Nat} {e : Int} (he : e ≠ 0) : stNum b p e = (0, p, e) := by unfold stNum; rw [if_neg he]
theorem stNum_ok {b : List Int} {p n j : Nat} (h : numR b p = .ok (n, j)) : stNum b p 0 = (n, j, 0) := by unfold stNum; rw [if_pos rfl, h]
theorem stNum_err {b : List Int} {p : Nat} {x : Int} (h : numR b p = .error x) : stNum b p 0 = (0, 0, x) := by unfold stNum; rw [if_pos rfl, h]
theorem stTxt_off {most : Nat} {b : List Int} {p : Nat} {e : Int} (he : e ≠ 0) : stTxt most b p e = ([], p, e) := by unfold stTxt; rw [if_neg he]
theorem stTxt_ok {most : Nat} {b t : List Int} {p j : Nat} (h : textR most b p = .ok (t, j)) : stTxt most b p 0 = (t, j, 0) := by unfold stTxt; rw [if_pos rfl, h]
theorem stTxt_err {most : Nat} {b : List Int} {p : Nat} {x : Int} (h : textR most b p = .error x) : stTxt most b p 0 = ([], 0, x) := by unfold stTxt; rw [if_pos rfl, h]
theorem stNum_le {b : List Int} {p : Nat} {e : Int} (hp : e = 0 → p ≤ b.length) (h : (stNum b p e).2.2 = 0) : (stNum b p e).2.1 ≤ b.length := by
  by_cases he : e = 0
  · subst he
    cases hn : numR b p with
    | ok q => obtain ⟨n, j⟩ := q; rw [stNum_ok hn]; exact numR_le (hp rfl) hn
    | error x => rw [stNum_err hn] at h; exact absurd h (numR_ne hn)
  · rw [stNum_off he] at h; exact absurd h he
end Go.Proofs.YtcphifphidcbaaaGreat
