/- Numbers, texts and acts as bytes: what is put is read, what is cut off is short. No program. -/
import Derived.KernelRfl
namespace Go.Proofs.YtcphifphidcbaaaGreat
set_option linter.unusedVariables false
/-- a number's bytes -/
def encF : Nat → Nat → List Int
  | 0, n => [(n : Int)]
  | f + 1, n => if n < 128 then [(n : Int)] else ((128 + n % 128 : Nat) : Int) :: encF f (n / 128)
def encN (n : Nat) : List Int := encF 8 n
/-- reading one: number, how many bytes -/
inductive Rd where
  | ok (n k : Nat)
  | short
  | form
  deriving DecidableEq
def rdN : List Int → Nat → Nat → Rd
  | [], _, _ => .short
  | c :: cs, i, acc =>
    if 128 ≤ c then (if i = 8 then .form else rdN cs (i + 1) (acc + (c.toNat % 128) * 128 ^ i))
    else if c = 0 ∧ 0 < i then .form else .ok (acc + c.toNat * 128 ^ i) (i + 1)
theorem encF_range : ∀ (f n : Nat), n < 128 ^ (f + 1) → ∀ x ∈ encF f n, 0 ≤ x ∧ x ≤ 255
  | 0, n, h, x, hx => by
    simp only [encF, List.mem_singleton] at hx
    simp at h; omega
  | f + 1, n, h, x, hx => by
    rw [encF] at hx
    split at hx
    · simp at hx; omega
    · rcases List.mem_cons.1 hx with rfl | hx
      · omega
      · refine encF_range f (n / 128) ?_ x hx
        rw [Nat.div_lt_iff_lt_mul (by decide), ← Nat.pow_succ]; exact h
theorem encF_len : ∀ (f n : Nat), 1 ≤ (encF f n).length ∧ (encF f n).length ≤ f + 1
  | 0, n => by simp [encF]
  | f + 1, n => by
    rw [encF]
    split
    · simp
    · have := encF_len f (n / 128)
      simp; omega
/-- what is put is read -/
theorem rd_enc : ∀ (f n i acc : Nat) (t : List Int), i + f = 8 → n < 128 ^ (f + 1) → (0 < i → 0 < n) → rdN (encF f n ++ t) i acc = .ok (acc + n * 128 ^ i) (i + (encF f n).length)
  | 0, n, i, acc, t, hi, hn, hp => by
    simp only [encF, List.cons_append, List.nil_append, rdN]
    have h1 : ¬ (128 : Int) ≤ (n : Int) := by simp at hn; omega
    have h2 : ¬ ((n : Int) = 0 ∧ 0 < i) := by omega
    rw [if_neg h1, if_neg h2]
    simp
  | f + 1, n, i, acc, t, hi, hn, hp => by
    rw [encF]
    split
    · rename_i h
      simp only [List.cons_append, List.nil_append, rdN]
      rw [if_neg (by omega), if_neg (by omega)]
      simp
    · rename_i h
      rw [List.cons_append, rdN, if_pos (by omega), if_neg (by omega), rd_enc f (n / 128) (i + 1) _ t (by omega) (by
        rw [Nat.div_lt_iff_lt_mul (by decide), ← Nat.pow_succ]; exact hn) (by omega)]
      have e1 : (((128 + n % 128 : Nat) : Int)).toNat % 128 = n % 128 := by omega
      rw [e1, List.length_cons]
      congr 1
      · have := Nat.div_add_mod n 128
        rw [Nat.pow_succ, Nat.add_assoc, ← Nat.mul_assoc, Nat.mul_right_comm, ← Nat.add_mul, Nat.add_comm (n % 128), Nat.mul_comm (n / 128), this]
      · omega
/-- what is cut off isn't -/
theorem rd_cut : ∀ (f n i acc k : Nat), i + f = 8 → k < (encF f n).length → rdN ((encF f n).take k) i acc = .short
  | 0, n, i, acc, k, hi, hk => by
    obtain rfl : k = 0 := by simp [encF] at hk; exact hk
    simp [rdN]
  | f + 1, n, i, acc, k, hi, hk => by
    rw [encF] at hk ⊢
    split at hk
    · rename_i h
      obtain rfl : k = 0 := by simpa using hk
      simp [rdN]
    · rename_i h
      rw [if_neg h]
      cases k with
      | zero => simp [rdN]
      | succ k =>
        rw [List.take_succ_cons, rdN, if_pos (by omega), if_neg (by omega), rd_cut f (n / 128) (i + 1) _ k (by omega) (by simpa using hk)]
def rd (l : List Int) : Rd := rdN l 0 0
theorem rd_put (n : Nat) (t : List Int) (h : n < 2 ^ 63) : rd (encN n ++ t) = .ok n (encN n).length := by
  have := rd_enc 8 n 0 0 t rfl (by have : (128 : Nat) ^ (8 + 1) = 2 ^ 63 := by decide
                                   omega) (by omega)
  simpa [rd, encN] using this
theorem rd_short (n k : Nat) (h : k < (encN n).length) : rd ((encN n).take k) = .short := rd_cut 8 n 0 0 k rfl h

/- readers: at a place of bytes: what was read and where it ends, or the error -/
abbrev Rdr (α : Type) := List Int → Nat → Except Int (α × Nat)
def numR : Rdr Nat := fun b i => match rd (b.drop i) with
  | .ok n k => .ok (n, i + k)
  | .short => .error 1
  | .form => .error 2
def thenR {α β : Type} (p : Rdr α) (q : α → Rdr β) : Rdr β := fun b i => match p b i with
  | .ok (x, j) => q x b j
  | .error e => .error e
def retR {α : Type} (x : α) : Rdr α := fun _ i => .ok (x, i)
def failR {α : Type} (e : Int) : Rdr α := fun _ _ => .error e
def unfoldedN (n : Nat) : Int := if n % 2 = 0 then -((n / 2 : Nat) : Int) else ((n / 2 : Nat) : Int)
def foldedN (n : Int) : Nat := if n < 0 then (-2 * n).toNat else (2 * n + 1).toNat
def signedR : Rdr Int := thenR numR fun n => if n = 0 then failR 2 else retR (unfoldedN n)
def takeR (n : Nat) : Rdr (List Int) := fun b i => if b.length - i < n then .error 1 else .ok ((b.drop i).take n, i + n)
def textR (most : Nat) : Rdr (List Int) := thenR numR fun n => if most < n then failR 4 else takeR n
structure ActR where
  kind : Int
  a : Int
  b : Int
  n : Int
  data : List Int
  deriving DecidableEq
instance : Inhabited ActR := ⟨⟨0, 0, 0, 0, []⟩⟩
def actR : Rdr ActR := thenR numR fun kind => thenR signedR fun a => thenR signedR fun b => thenR signedR fun n => thenR (textR 64) fun d => retR ⟨kind, a, b, n, d⟩
def actsR : Nat → Rdr (List ActR)
  | 0 => retR []
  | k + 1 => thenR (actsR k) fun l => thenR actR fun a => retR (l ++ [a])
/-- x stands as e: it is read wherever e stands, and what is cut off of e is short -/
def Good {α : Type} (p : Rdr α) (x : α) (e : List Int) : Prop :=
  (∀ pre post, p (pre ++ (e ++ post)) pre.length = .ok (x, pre.length + e.length)) ∧ ∀ pre k, k < e.length → p (pre ++ e.take k) pre.length = .error 1
theorem good_num (n : Nat) (h : n < 2 ^ 63) : Good numR n (encN n) := by
  refine ⟨fun pre post => ?_, fun pre k hk => ?_⟩
  · simp only [numR, List.drop_left, rd_put n post h]
  · simp only [numR, List.drop_left, rd_short n k hk]
theorem good_then {α β : Type} {p : Rdr α} {q : α → Rdr β} {x : α} {y : β} {e1 e2 : List Int} (h1 : Good p x e1) (h2 : Good (q x) y e2) : Good (thenR p q) y (e1 ++ e2) := by
  refine ⟨fun pre post => ?_, fun pre k hk => ?_⟩
  · simp only [thenR, List.append_assoc, h1.1 pre (e2 ++ post)]
    have := h2.1 (pre ++ e1) post
    rw [List.length_append, List.append_assoc] at this
    rw [this, List.length_append, Nat.add_assoc]
  · by_cases hc : k < e1.length
    · rw [List.take_append_of_le_length (by omega)]
      simp only [thenR, h1.2 pre k hc]
    · rw [List.take_append, List.take_of_length_le (by omega)]
      have hk2 : k - e1.length < e2.length := by rw [List.length_append] at hk; omega
      simp only [thenR, h1.1 pre (e2.take (k - e1.length))]
      have := h2.2 (pre ++ e1) (k - e1.length) hk2
      rw [List.length_append, List.append_assoc] at this
      exact this
theorem good_ret {α : Type} (x : α) : Good (retR x) x [] := ⟨fun _ _ => rfl, fun _ k hk => absurd hk (Nat.not_lt_zero _)⟩
theorem good_map {α β : Type} {p : Rdr α} {x : α} {e : List Int} (h : Good p x e) (f : α → β) : Good (thenR p fun x => retR (f x)) (f x) e := by
  have := good_then (q := fun x => retR (f x)) h (good_ret (f x))
  rwa [List.append_nil] at this
theorem unfold_fold (n : Int) : unfoldedN (foldedN n) = n := by
  unfold unfoldedN
  by_cases h : n < 0
  · rw [foldedN, if_pos h]; split <;> omega
  · rw [foldedN, if_neg h]; split <;> omega
theorem folded_pos (n : Int) : foldedN n ≠ 0 := by
  unfold foldedN
  split <;> omega
theorem good_signed (n : Int) (h : foldedN n < 2 ^ 63) : Good signedR n (encN (foldedN n)) := by
  have := good_then (q := fun m => if m = 0 then failR 2 else retR (unfoldedN m)) (y := n) (e2 := []) (good_num (foldedN n) h) (by
    rw [if_neg (folded_pos n), unfold_fold]; exact good_ret n)
  rwa [List.append_nil] at this
theorem good_take (d : List Int) : Good (takeR d.length) d d := by
  refine ⟨fun pre post => ?_, fun pre k hk => ?_⟩
  · simp only [takeR]
    rw [if_neg (by simp only [List.length_append]; omega)]
    simp
  · simp only [takeR]
    rw [if_pos (by simp only [List.length_append, List.length_take]; omega)]
theorem good_text (most : Nat) (d : List Int) (h : d.length ≤ most) (h2 : d.length < 2 ^ 63) : Good (textR most) d (encN d.length ++ d) :=
  good_then (good_num d.length h2) (by rw [if_neg (by omega)]; exact good_take d)
def actB (a : ActR) : List Int := encN a.kind.toNat ++ (encN (foldedN a.a) ++ (encN (foldedN a.b) ++ (encN (foldedN a.n) ++ (encN a.data.length ++ a.data))))
def okNum (n : Int) : Bool := decide (-1099511627776 ≤ n) && decide (n ≤ 1099511627776)
def okAct (a : ActR) : Bool := decide (1 ≤ a.kind) && decide (a.kind ≤ 10) && okNum a.a && okNum a.b && okNum a.n && decide (a.data.length ≤ 64)
theorem folded_lt (n : Int) (h : okNum n = true) : foldedN n < 2 ^ 63 := by
  simp only [okNum, Bool.and_eq_true, decide_eq_true_eq] at h
  unfold foldedN
  split <;> omega
theorem good_act (a : ActR) (h : okAct a = true) : Good actR a (actB a) := by
  simp only [okAct, Bool.and_eq_true, decide_eq_true_eq] at h
  obtain ⟨⟨⟨⟨⟨h1, h2⟩, h3⟩, h4⟩, h5⟩, h6⟩ := h
  unfold actR actB
  refine good_then (good_num _ (by omega)) (good_then (good_signed _ (folded_lt _ h3)) (good_then (good_signed _ (folded_lt _ h4)) (good_then (good_signed _ (folded_lt _ h5)) ?_)))
  have := good_map (good_text 64 a.data h6 (by omega)) fun d => (⟨a.kind.toNat, a.a, a.b, a.n, d⟩ : ActR)
  have e : (⟨((a.kind.toNat : Nat) : Int), a.a, a.b, a.n, a.data⟩ : ActR) = a := by
    rw [Int.toNat_of_nonneg (by omega)]
  rwa [e] at this
def actsB (l : List ActR) : List Int := (l.map actB).flatten
theorem actsB_snoc (l : List ActR) (a : ActR) : actsB (l ++ [a]) = actsB l ++ actB a := by simp [actsB]
theorem good_acts : ∀ (k : Nat) (l : List ActR), l.length = k → l.all okAct = true → Good (actsR k) l (actsB l)
  | 0, l, hl, _ => by
    obtain rfl := List.eq_nil_of_length_eq_zero hl
    exact good_ret []
  | k + 1, l, hl, h => by
    have hne : l ≠ [] := fun e => by subst e; cases hl
    obtain ⟨m, a, rfl⟩ : ∃ m a, l = m ++ [a] := ⟨l.dropLast, l.getLast hne, (List.dropLast_concat_getLast hne).symm⟩
    rw [List.all_append, Bool.and_eq_true] at h
    have h2 : okAct a = true := by simpa using h.2
    rw [actsB_snoc]
    exact good_then (good_acts k m (by simpa using hl) h.1) (good_map (good_act a h2) fun a => m ++ [a])
def restR : Rdr (List ActR) := thenR numR fun n => if 1000 < n then failR 4 else actsR n
def restB (l : List ActR) : List Int := encN l.length ++ actsB l
theorem good_rest (l : List ActR) (hl : l.length ≤ 1000) (h : l.all okAct = true) : Good restR l (restB l) :=
  good_then (good_num _ (by omega)) (by rw [if_neg (by omega)]; exact good_acts _ l rfl h)
end Go.Proofs.YtcphifphidcbaaaGreat
