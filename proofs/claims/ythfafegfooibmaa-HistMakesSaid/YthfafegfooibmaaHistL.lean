/- A search with a memory: what it finds is an order; what it does not find, within its steps, is none. No program. -/
import Derived.KernelRfl
namespace Go.Proofs.Ythfafegfooibmaa
set_option linter.unusedVariables false
structure DoneR where
  client : Int
  slot : Int
  op : Int
  write : Bool
  block : Int
  data : List Int
  code : Int
  fr : Int
  to : Int
  cut : Bool
  deriving DecidableEq
instance : Inhabited DoneR := ⟨⟨0, 0, 0, false, 0, [], 0, 0, 0, false⟩⟩
def countsD (o : DoneR) : Bool := (decide (0 ≤ o.to) && decide (o.code = 0)) || (decide (o.to < 0) && o.write)
def mustD (o : DoneR) : Bool := decide (0 ≤ o.to)
/-- how far: which have their place, and the last write -/
abbrev StD := Nat × Int
def valueD (os : List DoneR) (size : Nat) (x : StD) : List Int := if x.2 < 0 then List.replicate size 0 else (os.getD x.2.toNat default).data
def overD (os : List DoneR) (x : StD) : Prop := ∀ i, i < os.length → mustD (os.getD i default) = true → x.1.testBit i = true
def freeD (os : List DoneR) (size : Nat) (x : StD) (i : Nat) : Prop :=
  x.1.testBit i = false ∧ ((os.getD i default).write = true ∨ (os.getD i default).data = valueD os size x) ∧
  ∀ k, k < os.length → x.1.testBit k = false → mustD (os.getD k default) = true → ¬ (os.getD k default).to < (os.getD i default).fr
def nextD (os : List DoneR) (x : StD) (i : Nat) : StD := (x.1 ||| 2 ^ i, if (os.getD i default).write = true then (i : Int) else x.2)
instance (os : List DoneR) (x : StD) : Decidable (overD os x) := inferInstanceAs (Decidable (∀ i, i < os.length → mustD (os.getD i default) = true → x.1.testBit i = true))
instance (os : List DoneR) (size : Nat) (x : StD) (i : Nat) : Decidable (freeD os size x i) := inferInstanceAs (Decidable (_ ∧ _ ∧ ∀ k, k < os.length → x.1.testBit k = false → mustD (os.getD k default) = true → ¬ (os.getD k default).to < (os.getD i default).fr))
def limD : Nat := 200000
abbrev MemD := List StD × Nat
/-- the operations from i on (of n), one after the other -/
def loopD (os : List DoneR) (size : Nat) (f : StD → MemD → Option (List Nat) × MemD) (x : StD) : List Nat → MemD → Option (List Nat) × MemD
  | [], s => (none, s)
  | i :: is, s => if freeD os size x i then (match f (nextD os x i) s with
      | (some l, s') => (some (l ++ [i]), s')
      | (none, s') => loopD os size f x is s') else loopD os size f x is s
def fromD (os : List DoneR) (size : Nat) : Nat → StD → MemD → Option (List Nat) × MemD
  | 0, x, s => if overD os x then (some [], s) else (none, s)
  | f + 1, x, s => if overD os x then (some [], s) else if x ∈ s.1 ∨ limD < s.2 then (none, s) else loopD os size (fromD os size f) x (List.range os.length) (x :: s.1, s.2 + 1)
/-- a way on -/
def WayD (os : List DoneR) (size : Nat) : StD → List Nat → Prop
  | x, [] => overD os x
  | x, i :: is => i < os.length ∧ freeD os size x i ∧ WayD os size (nextD os x i) is
def Dead (os : List DoneR) (size : Nat) (x : StD) : Prop := ∀ is, ¬ WayD os size x is
theorem WayD.cons {os : List DoneR} {size : Nat} {x : StD} {i : Nat} {is : List Nat} (h : i < os.length) (h1 : freeD os size x i) (h2 : WayD os size (nextD os x i) is) : WayD os size x (i :: is) := ⟨h, h1, h2⟩
/-- what is found is a way -/
theorem loopD_some {os : List DoneR} {size : Nat} {f : StD → MemD → Option (List Nat) × MemD} {x : StD} (hf : ∀ y s l s', f y s = (some l, s') → WayD os size y l.reverse) :
    ∀ (is : List Nat) (s : MemD) (l : List Nat) (s' : MemD), (∀ i ∈ is, i < os.length) → loopD os size f x is s = (some l, s') → WayD os size x l.reverse
  | [], s, l, s', _, h => by simp [loopD] at h
  | i :: is, s, l, s', hi, h => by
    rw [loopD] at h
    split at h
    · rename_i hfr
      split at h
      · rename_i l1 s1 hq
        injection h with h1 h2
        injection h1 with h1
        subst h1
        rw [List.reverse_append]
        exact WayD.cons (hi i (List.mem_cons_self ..)) hfr (hf _ _ _ _ hq)
      · exact loopD_some hf is _ l s' (fun j hj => hi j (List.mem_cons_of_mem _ hj)) h
    · exact loopD_some hf is s l s' (fun j hj => hi j (List.mem_cons_of_mem _ hj)) h
theorem fromD_some {os : List DoneR} {size : Nat} : ∀ (f : Nat) (x : StD) (s : MemD) (l : List Nat) (s' : MemD), fromD os size f x s = (some l, s') → WayD os size x l.reverse
  | 0, x, s, l, s', h => by
    rw [fromD] at h
    split at h
    · rename_i ho
      injection h with h1 h2
      injection h1 with h1
      subst h1
      exact ho
    · injection h with h1 _; cases h1
  | f + 1, x, s, l, s', h => by
    rw [fromD] at h
    split at h
    · rename_i ho
      injection h with h1 h2
      injection h1 with h1
      subst h1
      exact ho
    · split at h
      · injection h with h1 _; cases h1
      · exact loopD_some (fun y s l s' hq => fromD_some f y s l s' hq) _ _ l s' (fun i hi => List.mem_range.1 hi) h
theorem next_lt {os : List DoneR} {x : StD} {i : Nat} (h : x.1.testBit i = false) : x.1 < (nextD os x i).1 := by
  show x.1 < x.1 ||| 2 ^ i
  have h1 : x.1 ≤ x.1 ||| 2 ^ i := Nat.left_le_or
  rcases Nat.lt_or_eq_of_le h1 with h2 | h2
  · exact h2
  · have : (x.1 ||| 2 ^ i).testBit i = true := by rw [Nat.testBit_or, Nat.testBit_two_pow_self]; simp
    rw [← h2, h] at this
    cases this
theorem next_bound {os : List DoneR} {x : StD} {i : Nat} (h : x.1 < 2 ^ os.length) (hi : i < os.length) : (nextD os x i).1 < 2 ^ os.length :=
  Nat.or_lt_two_pow h (Nat.pow_lt_pow_right (by decide) hi)
theorem loopD_steps {os : List DoneR} {size : Nat} {f : StD → MemD → Option (List Nat) × MemD} {x : StD} (hf : ∀ y s, s.2 ≤ (f y s).2.2) : ∀ (is : List Nat) (s : MemD), s.2 ≤ (loopD os size f x is s).2.2
  | [], s => Nat.le_refl _
  | i :: is, s => by
    rw [loopD]
    split
    · have h1 := hf (nextD os x i) s
      split
      · rename_i hq; rw [hq] at h1; exact h1
      · rename_i hq; rw [hq] at h1; exact Nat.le_trans h1 (loopD_steps hf is _)
    · exact loopD_steps hf is s
theorem fromD_steps {os : List DoneR} {size : Nat} : ∀ (f : Nat) (x : StD) (s : MemD), s.2 ≤ (fromD os size f x s).2.2
  | 0, x, s => by rw [fromD]; split <;> exact Nat.le_refl _
  | f + 1, x, s => by
    rw [fromD]
    split
    · exact Nat.le_refl _
    · split
      · exact Nat.le_refl _
      · exact Nat.le_trans (Nat.le_succ _) (loopD_steps (fun y s => fromD_steps f y s) _ (x :: s.1, s.2 + 1))
/-- what was met is dead, or under way -/
def InvD (os : List DoneR) (size : Nat) (anc : List StD) (s : MemD) : Prop := ∀ y ∈ s.1, Dead os size y ∨ y ∈ anc
theorem loopD_none {os : List DoneR} {size : Nat} {f : StD → MemD → Option (List Nat) × MemD} {x : StD} {anc : List StD} (hstep : ∀ y s, s.2 ≤ (f y s).2.2)
    (hf : ∀ i s s', i < os.length → freeD os size x i → f (nextD os x i) s = (none, s') → s'.2 ≤ limD → InvD os size anc s → Dead os size (nextD os x i) ∧ InvD os size anc s') :
    ∀ (is : List Nat) (s s' : MemD), (∀ i ∈ is, i < os.length) → loopD os size f x is s = (none, s') → s'.2 ≤ limD → InvD os size anc s → (∀ i ∈ is, freeD os size x i → Dead os size (nextD os x i)) ∧ InvD os size anc s'
  | [], s, s', _, h, _, hI => by
    rw [loopD] at h
    injection h with _ h
    subst h
    exact ⟨fun i hi => (by cases hi), hI⟩
  | i :: is, s, s', hi, h, hl, hI => by
    have hi' : ∀ j ∈ is, j < os.length := fun j hj => hi j (List.mem_cons_of_mem _ hj)
    rw [loopD] at h
    split at h
    · rename_i hfr
      split at h
      · injection h with h1 _; cases h1
      · rename_i s1 hq
        have hs1 : s1.2 ≤ limD := by
          have := loopD_steps (os := os) (size := size) (x := x) hstep is s1
          rw [h] at this
          exact Nat.le_trans this hl
        obtain ⟨hd, hI1⟩ := hf i s s1 (hi i (List.mem_cons_self ..)) hfr hq hs1 hI
        obtain ⟨h1, h2⟩ := loopD_none hstep hf is s1 s' hi' h hl hI1
        refine ⟨fun j hj hfj => ?_, h2⟩
        rcases List.mem_cons.1 hj with rfl | hj
        · exact hd
        · exact h1 j hj hfj
    · rename_i hfr
      obtain ⟨h1, h2⟩ := loopD_none hstep hf is s s' hi' h hl hI
      refine ⟨fun j hj hfj => ?_, h2⟩
      rcases List.mem_cons.1 hj with rfl | hj
      · exact absurd hfj hfr
      · exact h1 j hj hfj
/-- what is not found, within the steps, is none -/
theorem fromD_none {os : List DoneR} {size : Nat} : ∀ (f : Nat) (x : StD) (s s' : MemD) (anc : List StD), x.1 < 2 ^ os.length → 2 ^ os.length ≤ x.1 + f → (∀ y ∈ anc, y.1 < x.1) → fromD os size f x s = (none, s') → s'.2 ≤ limD → InvD os size anc s →
    Dead os size x ∧ InvD os size anc s'
  | 0, x, s, s', anc, hx, hf, _, _, _, _ => by omega
  | f + 1, x, s, s', anc, hx, hf, ha, h, hl, hI => by
    rw [fromD] at h
    split at h
    · injection h with h1 _; cases h1
    · rename_i hov
      split at h
      · rename_i hm
        injection h with _ h
        subst h
        rcases hm with hm | hm
        · rcases hI x hm with hd | hd
          · exact ⟨hd, hI⟩
          · exact absurd (ha x hd) (Nat.lt_irrefl _)
        · omega
      · rename_i hm
        have hI' : InvD os size (x :: anc) (x :: s.1, s.2 + 1) := fun y hy => by
          rcases List.mem_cons.1 hy with rfl | hy
          · exact .inr (List.mem_cons_self ..)
          · exact (hI y hy).imp id fun h => List.mem_cons_of_mem _ h
        obtain ⟨h1, h2⟩ := loopD_none (anc := x :: anc) (fun y s => fromD_steps f y s) (fun i s1 s2 hi hfr hq hs2 hI1 => by
          have hlt := next_lt (os := os) hfr.1
          refine fromD_none f _ s1 s2 (x :: anc) (next_bound hx hi) (by omega) (fun y hy => ?_) hq hs2 hI1
          rcases List.mem_cons.1 hy with rfl | hy
          · exact hlt
          · exact Nat.lt_trans (ha y hy) hlt) _ _ _ (fun i hi => List.mem_range.1 hi) h hl hI'
        have hd : Dead os size x := fun is hw => by
          cases is with
          | nil => exact hov hw
          | cons i is => exact h1 i (List.mem_range.2 hw.1) hw.2.1 is hw.2.2
        refine ⟨hd, fun y hy => ?_⟩
        rcases h2 y hy with h | h
        · exact .inl h
        · rcases List.mem_cons.1 h with rfl | h
          · exact .inl hd
          · exact .inr h
end Go.Proofs.Ythfafegfooibmaa
