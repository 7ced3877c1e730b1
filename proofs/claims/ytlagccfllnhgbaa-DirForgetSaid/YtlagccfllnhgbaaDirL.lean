/- A table of who shares what, plainly. No program. -/
import Derived.Test.YtlagccfllnhgbaaLib
namespace Go.Proofs.Ytlagccfllnhgbaa
open Go.RowKit

def byte4 (a b c d : Bool) : Nat := (if a then 1 else 0) + (if b then 2 else 0) + (if c then 4 else 0) + (if d then 8 else 0)
def byteP (p : Nat → Bool) : Nat := byte4 (p 0) (p 1) (p 2) (p 3)
structure Tab where
  c : Nat
  n : Nat
  h : Nat → Nat → Bool
structure Tab.Ok (s : Tab) : Prop where
  c1 : 1 ≤ s.c
  c4 : s.c ≤ 4
  n1 : 1 ≤ s.n
  n32 : s.n ≤ 32
  h : ∀ x y, s.h x y = true → x < s.c ∧ y < s.n
def Tab.there (s : Tab) (x y : Int) : Bool := decide (0 ≤ x) && decide (x < s.c) && decide (0 ≤ y) && decide (y < s.n)
def Tab.has (s : Tab) (x y : Int) : Bool := s.there x y && s.h x.toNat y.toNat
def Tab.set (s : Tab) (x y : Int) (v : Bool) : Tab := if s.there x y then { s with h := fun a b => if a = x.toNat ∧ b = y.toNat then v else s.h a b } else s
def Tab.sharers (s : Tab) (y : Int) : List Int := ((List.range s.c).filter fun (x : Nat) => s.has x y).map Int.ofNat
def Tab.of (s : Tab) (x : Int) : List Int := ((List.range s.n).filter fun (y : Nat) => s.has x y).map Int.ofNat
def Tab.forget (s : Tab) (x : Int) : Tab := { s with h := fun a b => s.h a b && !(decide ((a : Int) = x)) }
def sumTo (k : Nat) (f : Nat → Nat) : Nat := match k with | 0 => 0 | k + 1 => sumTo k f + f k
def bit01 (b : Bool) : Nat := if b then 1 else 0
def Tab.len (s : Tab) : Nat := sumTo s.c fun x => sumTo s.n fun y => bit01 (s.h x y)
def clamp (n most : Int) : Nat := (max 1 (min n most)).toNat
def Tab.new (c n : Int) : Tab := { c := clamp c 4, n := clamp n 32, h := fun _ _ => false }

def dirCells (s : Tab) : Array Value := (Value.int .i64 s.c :: Value.int .i64 s.n :: (List.range 32).map fun y => Value.int .u8 (byteP fun x => s.h x y)).toArray
def refCells (s : Tab) : Array Value := ((List.range (s.c * s.n)).map fun i => Value.bool (s.h (i / s.n) (i % s.n))).toArray

theorem Tab.there_iff (s : Tab) (x y : Int) : s.there x y = true ↔ 0 ≤ x ∧ x < s.c ∧ 0 ≤ y ∧ y < s.n := by
  simp [Tab.there, Bool.and_eq_true, and_assoc]
theorem Tab.there_no (s : Tab) (x y : Int) : s.there x y = false ↔ ¬ (0 ≤ x ∧ x < s.c ∧ 0 ≤ y ∧ y < s.n) := by
  rw [← Tab.there_iff]; simp
theorem Tab.there_set (s : Tab) (x y : Int) (v : Bool) (a b : Int) : (s.set x y v).there a b = s.there a b := by
  unfold Tab.set; split <;> rfl
theorem Tab.Ok.set {s : Tab} (hs : s.Ok) (x y : Int) (v : Bool) : (s.set x y v).Ok := by
  unfold Tab.set
  split
  · rename_i h
    obtain ⟨h1, h2, h3, h4⟩ := (s.there_iff x y).1 h
    exact ⟨hs.c1, hs.c4, hs.n1, hs.n32, fun a b hab => by
      dsimp only at hab ⊢
      split at hab
      · rename_i e; obtain ⟨rfl, rfl⟩ := e; omega
      · exact hs.h a b hab⟩
  · exact hs
theorem Tab.set_c (s : Tab) (x y : Int) (v : Bool) : (s.set x y v).c = s.c ∧ (s.set x y v).n = s.n := by unfold Tab.set; split <;> exact ⟨rfl, rfl⟩
theorem Tab.Ok.forget {s : Tab} (hs : s.Ok) (x : Int) : (s.forget x).Ok := ⟨hs.c1, hs.c4, hs.n1, hs.n32, fun a b hab => by
  simp only [Tab.forget, Bool.and_eq_true] at hab; exact hs.h a b hab.1⟩
theorem clamp_bd (n most : Int) (h : 1 ≤ most) : 1 ≤ clamp n most ∧ (clamp n most : Int) ≤ most := by unfold clamp; omega
theorem Tab.Ok.new (c n : Int) : (Tab.new c n).Ok := by
  have h1 := clamp_bd c 4 (by omega)
  have h2 := clamp_bd n 32 (by omega)
  exact ⟨h1.1, by simp only [Tab.new]; omega, h2.1, by simp only [Tab.new]; omega, by simp [Tab.new]⟩

theorem byteP_lt (p : Nat → Bool) : byteP p ≤ 15 := by unfold byteP byte4; (repeat' split) <;> omega
theorem dirCells_0 (s : Tab) : (dirCells s)[0]? = some (.int .i64 s.c) := by simp [dirCells]
theorem dirCells_1 (s : Tab) : (dirCells s)[1]? = some (.int .i64 s.n) := by simp [dirCells]
theorem dirCells_2 (s : Tab) (y : Nat) (hy : y < 32) : (dirCells s)[2 + y]? = some (.int .u8 (byteP fun x => s.h x y)) := by
  simp only [dirCells, List.getElem?_toArray]
  rw [show 2 + y = y + 1 + 1 from by omega, List.getElem?_cons_succ, List.getElem?_cons_succ]
  simp [hy]
theorem dirCells_set (s : Tab) (x y : Int) (v : Bool) (ht : s.there x y = true) (hs : s.Ok) :
    (dirCells s).setIfInBounds (2 + y.toNat) (.int .u8 (byteP fun a => (s.set x y v).h a y.toNat)) = dirCells (s.set x y v) := by
  obtain ⟨h1, h2, h3, h4⟩ := (s.there_iff x y).1 ht
  have hn := hs.n32
  apply Array.ext_getElem?
  intro i
  rw [Array.getElem?_setIfInBounds]
  have hsz : (dirCells s).size = 34 := by simp [dirCells]
  have hsz' : (dirCells (s.set x y v)).size = 34 := by simp [dirCells]
  by_cases hi : i < 34
  · rcases Nat.lt_or_ge i 2 with h | h
    · rw [if_neg (by omega)]
      rcases (show i = 0 ∨ i = 1 by omega) with rfl | rfl
      · rw [dirCells_0, dirCells_0, (s.set_c x y v).1]
      · rw [dirCells_1, dirCells_1, (s.set_c x y v).2]
    · obtain ⟨k, rfl⟩ : ∃ k, i = 2 + k := ⟨i - 2, by omega⟩
      rw [dirCells_2 _ k (by omega), dirCells_2 _ k (by omega)]
      by_cases hk : y.toNat = k
      · subst hk; rw [if_pos rfl, if_pos (by omega)]
      · rw [if_neg (by omega)]
        have : ∀ a, (s.set x y v).h a k = s.h a k := by
          intro a
          unfold Tab.set
          rw [if_pos ht]
          simp [show ¬ k = y.toNat from fun e => hk e.symm]
        simp only [this]
  · rw [Array.getElem?_eq_none (by omega), Array.getElem?_eq_none (by omega), if_neg (by omega)]

theorem byte_has (p : Nat → Bool) (x : Nat) (hx : x < 4) : (bits BinOp.and IntKind.u8 ((byteP p : Nat) / 2 ^ x) 1 != 0) = p x := by
  unfold byteP
  rcases (show x = 0 ∨ x = 1 ∨ x = 2 ∨ x = 3 by omega) with rfl | rfl | rfl | rfl <;> generalize p 0 = a <;> generalize p 1 = b <;> generalize p 2 = c <;> generalize p 3 = d <;> revert a b c d <;> decide
theorem byte_or (p : Nat → Bool) (x : Nat) (hx : x < 4) : bits BinOp.or IntKind.u8 (byteP p : Nat) (2 ^ x % 256) = (byteP fun a => if a = x then true else p a : Nat) := by
  unfold byteP
  rcases (show x = 0 ∨ x = 1 ∨ x = 2 ∨ x = 3 by omega) with rfl | rfl | rfl | rfl <;> simp only [Nat.reduceEqDiff, if_true, if_false] <;> generalize p 0 = a <;> generalize p 1 = b <;> generalize p 2 = c <;> generalize p 3 = d <;> revert a b c d <;> decide
theorem byte_andNot (p : Nat → Bool) (x : Nat) (hx : x < 4) : bits BinOp.andNot IntKind.u8 (byteP p : Nat) (2 ^ x % 256) = (byteP fun a => if a = x then false else p a : Nat) := by
  unfold byteP
  rcases (show x = 0 ∨ x = 1 ∨ x = 2 ∨ x = 3 by omega) with rfl | rfl | rfl | rfl <;> simp only [Nat.reduceEqDiff, if_true, if_false] <;> generalize p 0 = a <;> generalize p 1 = b <;> generalize p 2 = c <;> generalize p 3 = d <;> revert a b c d <;> decide

/- sums -/
theorem sumTo_congr (k : Nat) (f g : Nat → Nat) (h : ∀ i, i < k → f i = g i) : sumTo k f = sumTo k g := by
  induction k with
  | zero => rfl
  | succ k ih => simp only [sumTo]; rw [ih fun i hi => h i (by omega), h k (by omega)]
theorem sumTo_add (k : Nat) (f g : Nat → Nat) : sumTo k (fun i => f i + g i) = sumTo k f + sumTo k g := by
  induction k with
  | zero => rfl
  | succ k ih => simp only [sumTo]; rw [ih]; omega
theorem sumTo_zero (k : Nat) : sumTo k (fun _ => 0) = 0 := by
  induction k with
  | zero => rfl
  | succ k ih => simp only [sumTo]; rw [ih]
theorem sumTo_comm (k m : Nat) (f : Nat → Nat → Nat) : sumTo k (fun x => sumTo m fun y => f x y) = sumTo m fun y => sumTo k fun x => f x y := by
  induction k with
  | zero => simp only [sumTo]; exact (sumTo_zero m).symm
  | succ k ih => simp only [sumTo]; rw [ih, ← sumTo_add]
theorem sumTo_more (k m : Nat) (f : Nat → Nat) (h : ∀ i, k ≤ i → f i = 0) (hm : k ≤ m) : sumTo m f = sumTo k f := by
  induction m with
  | zero => obtain rfl : k = 0 := by omega
            rfl
  | succ m ih =>
    rcases Nat.eq_or_lt_of_le hm with rfl | hlt
    · rfl
    · simp only [sumTo]; rw [ih (by omega), h m (by omega)]; rfl
theorem sumTo_split (a b : Nat) (f : Nat → Nat) : sumTo (a + b) f = sumTo a f + sumTo b fun i => f (a + i) := by
  induction b with
  | zero => rfl
  | succ b ih => rw [← Nat.add_assoc]; simp only [sumTo]; rw [ih]; omega
theorem sumTo_flat (c n : Nat) (f : Nat → Nat → Nat) : sumTo (c * n) (fun i => f (i / n) (i % n)) = sumTo c fun x => sumTo n fun y => f x y := by
  induction c with
  | zero => simp [sumTo]
  | succ c ih =>
    rw [Nat.succ_mul, sumTo_split, ih]
    simp only [sumTo]
    congr 1
    apply sumTo_congr
    intro y hy
    rw [Nat.mul_comm c n, Nat.mul_add_div (by omega), Nat.div_eq_of_lt hy, Nat.add_zero, Nat.mul_add_mod, Nat.mod_eq_of_lt hy]
theorem filter_len (k : Nat) (p : Nat → Bool) : ((List.range k).filter p).length = sumTo k fun x => bit01 (p x) := by
  induction k with
  | zero => rfl
  | succ k ih =>
    rw [List.range_succ, List.filter_append, List.length_append, ih]
    simp only [sumTo, bit01, List.filter_cons, List.filter_nil]
    split <;> simp
theorem sumTo_le (k m : Nat) (f : Nat → Nat) (h : ∀ i, f i ≤ m) : sumTo k f ≤ k * m := by
  induction k with
  | zero => simp [sumTo]
  | succ k ih => simp only [sumTo]; rw [Nat.succ_mul]; have := h k; omega
def colN (s : Tab) (y : Nat) : Nat := bit01 (s.h 0 y) + bit01 (s.h 1 y) + bit01 (s.h 2 y) + bit01 (s.h 3 y)
theorem bit01_le (b : Bool) : bit01 b ≤ 1 := by cases b <;> decide
theorem colN_le (s : Tab) (y : Nat) : colN s y ≤ 4 := by
  unfold colN
  have h0 := bit01_le (s.h 0 y); have h1 := bit01_le (s.h 1 y); have h2 := bit01_le (s.h 2 y); have h3 := bit01_le (s.h 3 y)
  omega
theorem Tab.Ok.off_c {s : Tab} (hs : s.Ok) (x y : Nat) (h : s.c ≤ x) : bit01 (s.h x y) = 0 := by
  cases hh : s.h x y
  · rfl
  · have := (hs.h x y hh).1; omega
theorem Tab.Ok.off_n {s : Tab} (hs : s.Ok) (x y : Nat) (h : s.n ≤ y) : bit01 (s.h x y) = 0 := by
  cases hh : s.h x y
  · rfl
  · have := (hs.h x y hh).2; omega
theorem colN_sum (s : Tab) (hs : s.Ok) (y : Nat) : colN s y = sumTo s.c fun x => bit01 (s.h x y) := by
  rw [← sumTo_more s.c 4 _ (fun x hx => hs.off_c x y hx) hs.c4]
  simp [sumTo, colN]
theorem len_cols (s : Tab) (hs : s.Ok) : sumTo 32 (colN s) = s.len := by
  rw [sumTo_more s.n 32 (colN s) (fun y hy => by simp only [colN]; rw [hs.off_n _ _ hy, hs.off_n _ _ hy, hs.off_n _ _ hy, hs.off_n _ _ hy]) hs.n32]
  unfold Tab.len
  rw [sumTo_comm]
  exact sumTo_congr _ _ _ fun y _ => colN_sum s hs y
theorem len_le (s : Tab) (hs : s.Ok) : s.len ≤ 128 := by
  rw [← len_cols s hs]
  exact Nat.le_trans (sumTo_le 32 4 _ (colN_le s)) (by decide)

/- forgetting, one by one -/
def remTo (s : Tab) (x : Int) (l : List Int) : Tab := l.foldl (fun s y => s.set x y false) s
theorem remTo_snoc (s : Tab) (x : Int) (l : List Int) (y : Int) : remTo s x (l ++ [y]) = (remTo s x l).set x y false := by simp [remTo]
theorem remTo_ok (s : Tab) (hs : s.Ok) (x : Int) (l : List Int) : (remTo s x l).Ok := by
  induction l generalizing s with
  | nil => exact hs
  | cons y l ih => exact ih _ (hs.set x y false)
theorem remTo_cn (s : Tab) (x : Int) (l : List Int) : (remTo s x l).c = s.c ∧ (remTo s x l).n = s.n := by
  induction l generalizing s with
  | nil => exact ⟨rfl, rfl⟩
  | cons y l ih => have h1 := ih (s.set x y false); have h2 := s.set_c x y false; exact ⟨h1.1.trans h2.1, h1.2.trans h2.2⟩
theorem remTo_h (s : Tab) (x : Int) (l : List Int) (hl : ∀ y ∈ l, s.there x y = true) (a b : Nat) :
    (remTo s x l).h a b = (s.h a b && !(decide ((a : Int) = x) && decide ((b : Int) ∈ l))) := by
  induction l generalizing s with
  | nil => simp [remTo]
  | cons y l ih =>
    have hy : s.there x y = true := hl y (by simp)
    obtain ⟨h1, h2, h3, h4⟩ := (s.there_iff x y).1 hy
    have := ih (s.set x y false) (fun z hz => by rw [Tab.there_set]; exact hl z (by simp [hz]))
    show (remTo (s.set x y false) x l).h a b = _
    rw [this]
    have hh : (s.set x y false).h a b = if a = x.toNat ∧ b = y.toNat then false else s.h a b := by unfold Tab.set; rw [if_pos hy]
    rw [hh]
    by_cases he : a = x.toNat ∧ b = y.toNat
    · have h5 : (a : Int) = x := by omega
      have h6 : (b : Int) = y := by omega
      rw [if_pos he]; simp [h5, h6]
    · rw [if_neg he]
      by_cases ha : (a : Int) = x
      · have hb : ¬ (b : Int) = y := fun hb => he ⟨by omega, by omega⟩
        simp [ha, hb]
      · simp [ha]
theorem mem_of (s : Tab) (x : Int) (y : Int) : y ∈ s.of x ↔ s.has x y = true := by
  simp only [Tab.of, List.mem_map, List.mem_filter, List.mem_range]
  constructor
  · rintro ⟨k, ⟨_, hk⟩, rfl⟩; exact hk
  · intro h
    have ht : s.there x y = true := by rw [Tab.has, Bool.and_eq_true] at h; exact h.1
    obtain ⟨h1, h2, h3, h4⟩ := (s.there_iff x y).1 ht
    refine ⟨y.toNat, ⟨by omega, ?_⟩, ?_⟩
    · rw [Int.toNat_of_nonneg h3]; exact h
    · show ((y.toNat : Nat) : Int) = y
      omega
theorem forget_eq (s : Tab) (hs : s.Ok) (x : Int) : remTo s x (s.of x) = s.forget x := by
  have hl : ∀ y ∈ s.of x, s.there x y = true := fun y hy => by
    have := (mem_of s x y).1 hy
    rw [Tab.has, Bool.and_eq_true] at this; exact this.1
  have h1 := remTo_h s x (s.of x) hl
  have h2 := remTo_cn s x (s.of x)
  have : (remTo s x (s.of x)).h = (s.forget x).h := by
    funext a b
    rw [h1]
    simp only [Tab.forget]
    cases hab : s.h a b
    · rfl
    · by_cases ha : (a : Int) = x
      · have hm : (b : Int) ∈ s.of x := (mem_of s x b).2 (by
          have := hs.h a b hab
          rw [Tab.has, (s.there_iff x b).2 ⟨by omega, by omega, by omega, by omega⟩, ← ha]
          simpa using hab)
        simp [ha, hm]
      · simp [ha]
  cases hr : remTo s x (s.of x)
  rw [hr] at this h2
  simp only [Tab.forget] at this ⊢
  simp only at h2
  rw [h2.1, h2.2, this]
theorem of_len (s : Tab) (hs : s.Ok) (x : Int) : (s.of x).length ≤ 32 := by
  simp only [Tab.of, List.length_map]
  exact Nat.le_trans (Nat.le_trans (List.length_filter_le _ _) (by simp)) hs.n32

theorem Tab.set_idle (s : Tab) (x y : Int) (hb : s.has x y = false) : s.set x y false = s := by
  unfold Tab.set
  split
  · rename_i hc
    rw [Tab.has, hc, Bool.true_and] at hb
    cases s
    congr
    funext a b
    split
    · rename_i e; rw [e.1, e.2]; exact hb.symm
    · rfl
  · rfl
theorem Tab.set_none (s : Tab) (x y : Int) (v : Bool) (hb : s.there x y = false) : s.set x y v = s := by simp [Tab.set, hb]
def Tab.act (s : Tab) (k c b : Int) : Tab := if k = 0 then s.set c b true else if k = 1 then s.set c b false else if k = 2 then s.forget c else s
theorem Tab.Ok.act {s : Tab} (hs : s.Ok) (k c b : Int) : (s.act k c b).Ok := by
  unfold Tab.act
  split
  · exact hs.set ..
  · split
    · exact hs.set ..
    · split
      · exact hs.forget ..
      · exact hs

theorem of_forget_self (s : Tab) (x : Int) : (s.forget x).of x = [] := by
  unfold Tab.of
  rw [List.map_eq_nil_iff, List.filter_eq_nil_iff]
  intro a _
  rw [Tab.has]
  by_cases h : (s.forget x).there x a = true
  · obtain ⟨h1, _, _, _⟩ := ((s.forget x).there_iff x a).1 h
    simp [Tab.forget, Int.toNat_of_nonneg h1]
  · simp [h]
theorem of_forget_other (s : Tab) (x o : Int) (h : o ≠ x) : (s.forget x).of o = s.of o := by
  unfold Tab.of
  congr 1
  apply List.filter_congr
  intro a _
  show (s.forget x).has o a = s.has o a
  unfold Tab.has
  have ht : (s.forget x).there o a = s.there o a := rfl
  rw [ht]
  cases hh : s.there o a
  · rfl
  · obtain ⟨h1, _, _, _⟩ := (s.there_iff o a).1 hh
    simp [Tab.forget, Int.toNat_of_nonneg h1, h]
end Go.Proofs.Ytlagccfllnhgbaa
