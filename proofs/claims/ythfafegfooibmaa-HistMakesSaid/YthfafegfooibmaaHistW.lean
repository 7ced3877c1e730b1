/- A search's answer as a matter of the operations alone: they can be put into an order, or they can not. No program. -/
import Derived.Test.YthfafegfooibmaaHistL
namespace Go.Proofs.Ythfafegfooibmaa
set_option linter.unusedVariables false
/-- an order of operations, of a register that has v -/
inductive Way : List DoneR → List Int → Prop
  | over {U : List DoneR} {v : List Int} : (∀ o ∈ U, mustD o = false) → Way U v
  | step {U U' : List DoneR} {v : List Int} {o : DoneR} : U.Perm (o :: U') → (o.write = true ∨ o.data = v) → (∀ y ∈ U, mustD y = true → ¬ y.to < o.fr) → Way U' (if o.write = true then o.data else v) → Way U v
theorem Way.perm {U V : List DoneR} {v : List Int} (h : Way U v) (hp : U.Perm V) : Way V v := by
  cases h with
  | over h => exact .over fun o ho => h o (hp.mem_iff.2 ho)
  | step p h1 h2 h3 => exact .step (hp.symm.trans p) h1 (fun y hy => h2 y (hp.mem_iff.2 hy)) h3
/-- what can be, can be still without one of its reads -/
theorem Way.less {U : List DoneR} {v : List Int} (h : Way U v) : ∀ {W : List DoneR} {r : DoneR}, U.Perm (r :: W) → r.write = false → Way W v := by
  induction h with
  | over h => exact fun hp hr => .over fun o ho => h o (hp.mem_iff.2 (List.mem_cons_of_mem _ ho))
  | @step U U' v o p h1 h2 h3 ih =>
    intro W r hp hr
    by_cases e : o = r
    · subst e
      have : U'.Perm W := (p.symm.trans hp).cons_inv
      rw [hr] at h3
      exact h3.perm this
    · have hpp : (o :: U').Perm (r :: W) := p.symm.trans hp
      have hr' : r ∈ U' := by
        rcases List.mem_cons.1 (hpp.mem_iff.2 (List.mem_cons_self ..)) with h | h
        · exact absurd h.symm e
        · exact h
      have hU : U'.Perm (r :: U'.erase r) := List.perm_cons_erase hr'
      have hW : W.Perm (o :: U'.erase r) := by
        refine List.Perm.cons_inv (a := r) (hpp.symm.trans ?_)
        exact (hU.cons o).trans (List.Perm.swap ..)
      exact .step hW h1 (fun y hy => h2 y (hp.mem_iff.2 (List.mem_cons_of_mem _ hy))) (ih hU hr)
/-- a read of what nobody writes has no place -/
theorem Way.never {U : List DoneR} {v : List Int} (h : Way U v) {r : DoneR} (hr : r ∈ U) (hm : mustD r = true) (hw : r.write = false) (hv : r.data ≠ v) (hd : ∀ o ∈ U, o.write = true → r.data ≠ o.data) : False := by
  induction h with
  | over h => rw [h r hr] at hm; cases hm
  | @step U U' v o p h1 h2 h3 ih =>
    rcases List.mem_cons.1 (p.mem_iff.1 hr) with rfl | hr'
    · rcases h1 with h1 | h1
      · rw [h1] at hw; cases hw
      · exact hv h1
    · refine ih hr' ?_ fun o' ho' hw' => hd o' (p.mem_iff.2 (List.mem_cons_of_mem _ ho')) hw'
      split
      · rename_i how
        exact hd o (p.mem_iff.2 (List.mem_cons_self ..)) how
      · exact hv
/-- operations that are one behind the other -/
def SeqD : List DoneR → List Int → Prop
  | [], v => True
  | o :: U, v => (o.write = true ∨ o.data = v) ∧ (∀ y ∈ o :: U, mustD y = true → ¬ y.to < o.fr) ∧ SeqD U (if o.write = true then o.data else v)
theorem SeqD.way : ∀ {U : List DoneR} {v : List Int}, SeqD U v → Way U v
  | [], v, _ => .over fun o ho => by cases ho
  | o :: U, v, ⟨h1, h2, h3⟩ => .step (List.Perm.refl _) h1 h2 h3.way
/-! the program's states -/
def leftD (os : List DoneR) (x : StD) : List DoneR := ((List.range os.length).filter fun i => !x.1.testBit i).map fun i => os.getD i default
theorem leftD_mem {os : List DoneR} {x : StD} {o : DoneR} : o ∈ leftD os x ↔ ∃ i, i < os.length ∧ x.1.testBit i = false ∧ os.getD i default = o := by
  simp only [leftD, List.mem_map, List.mem_filter, List.mem_range, Bool.not_eq_true', and_assoc]
theorem filter_split {p : Nat → Bool} {i : Nat} : ∀ {l : List Nat}, l.Nodup → i ∈ l → p i = true → (l.filter p).Perm (i :: l.filter fun j => p j && !decide (j = i))
  | [], _, h, _ => by cases h
  | a :: l, hn, h, hp => by
    obtain ⟨hna, hn'⟩ := List.nodup_cons.1 hn
    by_cases e : a = i
    · subst e
      rw [List.filter_cons_of_pos hp, List.filter_cons_of_neg (by simp)]
      refine List.Perm.cons _ (List.Perm.of_eq ?_)
      refine List.filter_congr fun j hj => ?_
      have : j ≠ a := fun e => hna (e ▸ hj)
      simp [this]
    · have hi : i ∈ l := by rcases List.mem_cons.1 h with h | h; exact absurd h.symm e; exact h
      have ih := filter_split hn' hi hp
      by_cases hpa : p a = true
      · rw [List.filter_cons_of_pos hpa, List.filter_cons_of_pos (by simp [hpa, e])]
        exact (ih.cons a).trans (List.Perm.swap ..)
      · rw [List.filter_cons_of_neg hpa, List.filter_cons_of_neg (by simp [hpa])]
        exact ih
theorem left_next {os : List DoneR} {x : StD} {i : Nat} (hi : i < os.length) (h : x.1.testBit i = false) : (leftD os x).Perm (os.getD i default :: leftD os (nextD os x i)) := by
  have h1 := filter_split (p := fun i => !x.1.testBit i) List.nodup_range (List.mem_range.2 hi) (by simp [h])
  have h2 := h1.map fun i => os.getD i default
  refine h2.trans (List.Perm.of_eq ?_)
  rw [List.map_cons]
  refine congrArg _ (congrArg _ (List.filter_congr fun j _ => ?_))
  show (!x.1.testBit j && !decide (j = i)) = !(x.1 ||| 2 ^ i).testBit j
  rw [Nat.testBit_or, Nat.testBit_two_pow]
  by_cases e : j = i
  · subst e; simp
  · have e' : ¬ i = j := fun h => e h.symm
    simp [e, e']
theorem value_next {os : List DoneR} {size : Nat} {x : StD} {i : Nat} : valueD os size (nextD os x i) = if (os.getD i default).write = true then (os.getD i default).data else valueD os size x := by
  unfold valueD nextD
  simp only
  split
  · rename_i h
    rw [if_neg (by omega)]
    simp
  · rfl
theorem wayD_way {os : List DoneR} {size : Nat} : ∀ {is : List Nat} {x : StD}, WayD os size x is → Way (leftD os x) (valueD os size x)
  | [], x, h => .over fun o ho => by
    obtain ⟨i, hi, hb, rfl⟩ := leftD_mem.1 ho
    by_cases hm : mustD (os.getD i default) = true
    · rw [h i hi hm] at hb; cases hb
    · simpa using hm
  | i :: is, x, ⟨hi, ⟨hb, hv, hf⟩, hw⟩ => by
    refine .step (left_next hi hb) hv (fun y hy hm => ?_) ?_
    · obtain ⟨k, hk, hkb, rfl⟩ := leftD_mem.1 hy
      exact hf k hk hkb hm
    · have := wayD_way hw
      rwa [value_next] at this
theorem way_wayD {os : List DoneR} {size : Nat} {U : List DoneR} {v : List Int} (h : Way U v) : ∀ {x : StD}, U.Perm (leftD os x) → v = valueD os size x → ∃ is, WayD os size x is := by
  induction h with
  | over h =>
    intro x hp _
    refine ⟨[], fun i hi hm => ?_⟩
    by_cases hb : x.1.testBit i = true
    · exact hb
    · have hmem : os.getD i default ∈ leftD os x := leftD_mem.2 ⟨i, hi, by simpa using hb, rfl⟩
      rw [h _ (hp.mem_iff.2 hmem)] at hm
      cases hm
  | @step U U' v o p h1 h2 h3 ih =>
    intro x hp hv
    obtain ⟨i, hi, hb, rfl⟩ := leftD_mem.1 (hp.mem_iff.1 (p.mem_iff.2 (List.mem_cons_self ..)))
    have hp' : U'.Perm (leftD os (nextD os x i)) := List.Perm.cons_inv (a := os.getD i default) (p.symm.trans (hp.trans (left_next hi hb)))
    obtain ⟨is, hw⟩ := ih hp' (by rw [value_next, hv])
    exact ⟨i :: is, hi, ⟨hb, hv ▸ h1, fun k hk hkb hm => h2 _ (hp.mem_iff.2 (leftD_mem.2 ⟨k, hk, hkb, rfl⟩)) hm⟩, hw⟩
theorem left_zero (os : List DoneR) (k : Int) : leftD os (0, k) = os := by
  unfold leftD
  have : (List.range os.length).filter (fun i => !(0 : Nat).testBit i) = List.range os.length := List.filter_eq_self.2 fun i _ => by simp
  rw [this]
  refine List.ext_getElem (by simp) fun i h1 h2 => ?_
  simp [List.getElem?_eq_getElem h2]
/-! an order of a block's operations; the program's answer -/
def placesD (l : List DoneR) (block : Int) : List Nat := (List.range l.length).filter fun i => decide ((l.getD i default).block = block) && countsD (l.getD i default)
def osD (l : List DoneR) (block : Int) : List DoneR := (placesD l block).map fun i => l.getD i default
theorem osD_eq (l : List DoneR) (block : Int) : osD l block = l.filter fun o => decide (o.block = block) && countsD o := by
  unfold osD placesD
  have h : l = (List.range l.length).map fun i => l.getD i default := by
    refine List.ext_getElem (by simp) fun i h1 h2 => ?_
    simp [List.getElem?_eq_getElem h1]
  conv => rhs; rw [h, List.filter_map]
  rfl
def runD (os : List DoneR) (size : Nat) : Option (List Nat) × MemD := fromD os size (2 ^ os.length) (0, -1) ([], 0)
/-- an order, or an error: its number -/
def orderD (l : List DoneR) (block size : Int) : List Nat × Int :=
  if size < 1 ∨ 16 < size then ([], 6)
  else if 60 < (osD l block).length then ([], 4)
  else match runD (osD l block) size.toNat with
    | (some p, _) => (p.reverse.map fun i => (placesD l block).getD i 0, 0)
    | (none, s) => if limD < s.2 then ([], 4) else ([], 5)
def codeD (l : List DoneR) (block size : Int) : Int := (orderD l block size).2
theorem code_ok {l : List DoneR} {block size : Int} (h1 : 1 ≤ size) (h2 : size ≤ 16) (h : codeD l block size = 0) : Way (osD l block) (List.replicate size.toNat 0) := by
  unfold codeD orderD at h
  rw [if_neg (by omega)] at h
  split at h
  · cases h
  · split at h
    · rename_i p s hq
      have := wayD_way (fromD_some _ _ _ _ _ hq)
      rwa [left_zero] at this
    · split at h <;> cases h
theorem code_cases (l : List DoneR) {block size : Int} (h1 : 1 ≤ size) (h2 : size ≤ 16) : codeD l block size = 0 ∨ codeD l block size = 4 ∨ codeD l block size = 5 := by
  unfold codeD orderD
  rw [if_neg (by omega)]
  split
  · exact .inr (.inl rfl)
  · split
    · exact .inl rfl
    · split
      · exact .inr (.inl rfl)
      · exact .inr (.inr rfl)
theorem code_none {l : List DoneR} {block size : Int} (h1 : 1 ≤ size) (h2 : size ≤ 16) (h : codeD l block size = 5) : ¬ Way (osD l block) (List.replicate size.toNat 0) := by
  intro hw
  obtain ⟨is, hd⟩ := way_wayD (os := osD l block) (size := size.toNat) hw (x := (0, -1)) (by rw [left_zero]) rfl
  unfold codeD orderD at h
  rw [if_neg (by omega)] at h
  split at h
  · cases h
  · split at h
    · cases h
    · rename_i s hq
      split at h
      · cases h
      · rename_i hl
        exact (fromD_none _ _ _ _ [] (Nat.pow_pos (by decide)) (by simp) (fun y hy => by cases hy) hq (by omega) (fun y hy => by cases hy)).1 is hd
theorem code_way {l : List DoneR} {block size : Int} (h1 : 1 ≤ size) (h2 : size ≤ 16) (h : Way (osD l block) (List.replicate size.toNat 0)) : codeD l block size = 0 ∨ codeD l block size = 4 := by
  rcases code_cases l (block := block) h1 h2 with e | e | e
  · exact .inl e
  · exact .inr e
  · exact absurd h (code_none h1 h2 e)
/-- are they linear: the answer, the error -/
def linLoop (l : List DoneR) (size : Int) : List Int → Bool → Bool × Int
  | [], is => (is, 0)
  | b :: bs, is => if codeD l b size = 4 then (false, 4) else linLoop l size bs (is && !decide (codeD l b size = 5))
theorem linLoop_eq (l : List DoneR) {size : Int} (h1 : 1 ≤ size) (h2 : size ≤ 16) : ∀ (bs : List Int) (is : Bool),
    linLoop l size bs is = if ∃ b ∈ bs, codeD l b size = 4 then (false, 4) else (is && decide (∀ b ∈ bs, codeD l b size = 0), 0)
  | [], is => by simp [linLoop]
  | b :: bs, is => by
    rw [linLoop]
    by_cases hb : codeD l b size = 4
    · rw [if_pos hb, if_pos ⟨b, List.mem_cons_self .., hb⟩]
    · rw [if_neg hb, linLoop_eq l h1 h2 bs]
      by_cases hx : ∃ b ∈ bs, codeD l b size = 4
      · rw [if_pos hx, if_pos (by obtain ⟨c, hc, e⟩ := hx; exact ⟨c, List.mem_cons_of_mem _ hc, e⟩)]
      · rw [if_neg hx, if_neg]
        · congr 1
          rw [Bool.and_assoc]
          congr 1
          rw [Bool.eq_iff_iff, Bool.and_eq_true]
          simp only [Bool.not_eq_true', decide_eq_false_iff_not, decide_eq_true_eq, List.forall_mem_cons]
          refine and_congr_left fun _ => ?_
          rcases code_cases l (block := b) h1 h2 with e | e | e
          · rw [e]; decide
          · exact absurd e hb
          · rw [e]; decide
        · rintro ⟨c, hc, e⟩
          rcases List.mem_cons.1 hc with rfl | hc
          · exact hb e
          · exact hx ⟨c, hc, e⟩
def blocksD (l : List DoneR) : List Int := ((l.map DoneR.block).mergeSort fun x y => decide (x ≤ y))
/-- the answer and the error of all blocks' orders -/
def linD (l : List DoneR) (size : Int) : Bool × Int :=
  if size < 1 ∨ 16 < size then (false, 6) else if ∃ o ∈ l, codeD l o.block size = 4 then (false, 4) else (decide (∀ o ∈ l, codeD l o.block size = 0), 0)
theorem lin_blocks (l : List DoneR) {size : Int} (h1 : 1 ≤ size) (h2 : size ≤ 16) {bs : List Int} (hb : ∀ b, b ∈ bs ↔ b ∈ l.map DoneR.block) : linLoop l size bs true = linD l size := by
  rw [linLoop_eq l h1 h2, linD, if_neg (show ¬ (size < 1 ∨ 16 < size) by omega)]
  have e1 : (∃ b ∈ bs, codeD l b size = 4) ↔ ∃ o ∈ l, codeD l o.block size = 4 := by
    constructor
    · rintro ⟨b, h, e⟩
      obtain ⟨o, ho, rfl⟩ := List.mem_map.1 ((hb b).1 h)
      exact ⟨o, ho, e⟩
    · rintro ⟨o, ho, e⟩
      exact ⟨_, (hb _).2 (List.mem_map.2 ⟨o, ho, rfl⟩), e⟩
  have e2 : (∀ b ∈ bs, codeD l b size = 0) ↔ ∀ o ∈ l, codeD l o.block size = 0 := by
    constructor
    · exact fun h o ho => h _ ((hb _).2 (List.mem_map.2 ⟨o, ho, rfl⟩))
    · rintro h b hb'
      obtain ⟨o, ho, rfl⟩ := List.mem_map.1 ((hb b).1 hb')
      exact h o ho
  simp only [e1, e2, Bool.true_and]
/-- without one of its reads -/
theorem lin_less {A B : List DoneR} {r : DoneR} (hr : r.write = false) (h : linD (A ++ r :: B) 1 = (true, 0)) : (linD (A ++ B) 1).2 = 4 ∨ linD (A ++ B) 1 = (true, 0) := by
  have hall : ∀ o ∈ A ++ r :: B, codeD (A ++ r :: B) o.block 1 = 0 := by
    unfold linD at h
    rw [if_neg (by decide)] at h
    split at h
    · cases h
    · injection h with h _
      exact of_decide_eq_true h
  unfold linD
  rw [if_neg (by decide)]
  split
  · exact .inl rfl
  · rename_i hno
    refine .inr (congrArg (·, 0) (decide_eq_true fun o ho => ?_))
    have ho' : o ∈ A ++ r :: B := by
      rcases List.mem_append.1 ho with h | h
      · exact List.mem_append_left _ h
      · exact List.mem_append_right _ (List.mem_cons_of_mem _ h)
    have hw := code_ok (by decide) (by decide) (hall o ho')
    have hw' : Way (osD (A ++ B) o.block) (List.replicate (1 : Int).toNat 0) := by
      rw [osD_eq] at hw ⊢
      rw [List.filter_append, List.filter_cons] at hw
      rw [List.filter_append]
      split at hw
      · exact hw.less List.perm_middle hr
      · exact hw
    rcases code_way (by decide) (by decide) hw' with e | e
    · exact e
    · exact absurd ⟨o, ho, e⟩ hno
/-- a read of what nobody wrote -/
theorem lin_never {l : List DoneR} {r : DoneR} {b : Int} (hr : r.write = false) (hd : r.data = [b]) (hb : b ≠ 0) (ht : 0 ≤ r.to) (hc : r.code = 0) (hn : ∀ o ∈ l, o.data ≠ [b]) : (linD (l ++ [r]) 1).2 = 4 ∨ linD (l ++ [r]) 1 = (false, 0) := by
  unfold linD
  rw [if_neg (by decide)]
  split
  · exact .inl rfl
  · refine .inr (congrArg (·, 0) (decide_eq_false fun h => ?_))
    have hmem : r ∈ l ++ [r] := List.mem_append_right _ (List.mem_singleton.2 rfl)
    have hw := code_ok (by decide) (by decide) (h r hmem)
    rw [osD_eq] at hw
    refine hw.never (r := r) (List.mem_filter.2 ⟨hmem, by simp [countsD, ht, hc]⟩) (by simp [mustD, ht]) hr ?_ fun o ho how => ?_
    · rw [hd]; intro e; injection e with e _; exact hb e
    · rw [hd]
      rcases List.mem_append.1 (List.mem_filter.1 ho).1 with h | h
      · exact (hn o h).symm
      · rw [List.mem_singleton.1 h, hr] at how; cases how
/-- operations one behind the other, block by block -/
theorem lin_seq {l : List DoneR} (h : ∀ b : Int, SeqD (l.filter fun o => decide (o.block = b) && countsD o) [0]) : (linD l 1).2 = 4 ∨ linD l 1 = (true, 0) := by
  unfold linD
  rw [if_neg (by decide)]
  split
  · exact .inl rfl
  · rename_i hno
    refine .inr (congrArg (·, 0) (decide_eq_true fun o ho => ?_))
    have hw : Way (osD l o.block) (List.replicate (1 : Int).toNat 0) := by
      rw [osD_eq]; exact (h o.block).way
    rcases code_way (by decide) (by decide) hw with e | e
    · exact e
    · exact absurd ⟨o, ho, e⟩ hno
end Go.Proofs.Ythfafegfooibmaa
