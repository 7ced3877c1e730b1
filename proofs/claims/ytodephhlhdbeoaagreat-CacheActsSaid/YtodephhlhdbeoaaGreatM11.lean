/- Several texts, one behind the other: Lst. -/
namespace Go.Proofs.YtodephhlhdbeoaaGreat
set_option linter.unusedVariables false
structure Nd where
  l : Int
  a : Int
  b : Int
structure En where
  f : Int
  k : Int
  m : Int
def updI {α : Type} (f : Int → α) (k : Int) (v : α) : Int → α := fun x => if x = k then v else f x
def updN {α : Type} (f : Nat → α) (k : Nat) (v : α) : Nat → α := fun x => if x = k then v else f x
def hd (L : List Int) : Int := L.headD (-1)
def lst (L : List Int) : Int := L.getLastD (-1)
def prv : List Int → Int → Int
  | [], _ => -1
  | a :: L, x => if hd L = x then a else prv L x
def nxt : List Int → Int → Int
  | [], _ => -1
  | a :: L, x => if a = x then hd L else nxt L x
def Pos (L : List Int) : Prop := ∀ x ∈ L, 0 ≤ x
theorem Pos.tail {a : Int} {L : List Int} (h : Pos (a :: L)) : Pos L := fun x hx => h x (List.mem_cons_of_mem _ hx)
theorem Pos.head {a : Int} {L : List Int} (h : Pos (a :: L)) : 0 ≤ a := h a (List.mem_cons_self ..)
theorem hd_mem {L : List Int} (h : hd L ≠ -1) : hd L ∈ L := by
  cases L with
  | nil => exact absurd rfl h
  | cons a L => exact List.mem_cons_self ..
theorem hd_nil {L : List Int} (hp : Pos L) (h : hd L = -1) : L = [] := by
  cases L with
  | nil => rfl
  | cons a L => have := hp.head; have h : a = -1 := h; omega
theorem lst_cons (a : Int) (L : List Int) : lst (a :: L) = if L = [] then a else lst L := by
  cases L with
  | nil => rfl
  | cons b L => simp [lst]
theorem lst_mem {L : List Int} (h : lst L ≠ -1) : lst L ∈ L := by
  induction L with
  | nil => exact absurd rfl h
  | cons a L ih =>
    rw [lst_cons] at h ⊢
    split
    · exact List.mem_cons_self ..
    · rename_i e
      rw [if_neg e] at h
      exact List.mem_cons_of_mem _ (ih h)
theorem prv_not {L : List Int} {x : Int} (h0 : 0 ≤ x) (h : x ∉ L) : prv L x = -1 := by
  induction L with
  | nil => rfl
  | cons a L ih =>
    rw [prv, if_neg, ih (fun e => h (List.mem_cons_of_mem _ e))]
    intro e
    exact h (List.mem_cons_of_mem _ (e ▸ hd_mem (by omega)))
theorem prv_mem {L : List Int} : ∀ {a b : Int}, b ∈ L → prv (a :: L) b ∈ a :: L := by
  induction L with
  | nil => intro a b h; cases h
  | cons c L ih =>
    intro a b h
    rw [prv]
    by_cases e : hd (c :: L) = b
    · rw [if_pos e]; exact List.mem_cons_self ..
    · rw [if_neg e]
      have : b ∈ L := by
        rcases List.mem_cons.1 h with rfl | h
        · exact absurd rfl e
        · exact h
      exact List.mem_cons_of_mem _ (ih this)
theorem prv_or (L : List Int) (b : Int) (h0 : 0 ≤ b) : prv L b = -1 ∨ prv L b ∈ L := by
  cases L with
  | nil => exact .inl rfl
  | cons a L =>
    by_cases h : b ∈ L
    · exact .inr (prv_mem h)
    · refine .inl ?_
      rw [prv, if_neg (show ¬ hd L = b from fun e => h (e ▸ hd_mem (by omega))), prv_not h0 h]
theorem nxt_or (L : List Int) (b : Int) : nxt L b = -1 ∨ nxt L b ∈ L := by
  induction L with
  | nil => exact .inl rfl
  | cons a L ih =>
    rw [nxt]
    split
    · by_cases h : hd L = -1
      · exact .inl h
      · exact .inr (List.mem_cons_of_mem _ (hd_mem h))
    · rcases ih with h | h
      · exact .inl h
      · exact .inr (List.mem_cons_of_mem _ h)
theorem prv_hd {L : List Int} {x : Int} (hn : L.Nodup) (h0 : 0 ≤ x) (h : hd L = x) : prv L x = -1 := by
  cases L with
  | nil => rfl
  | cons a L =>
    have h : a = x := h
    subst h
    have := (List.nodup_cons.1 hn).1
    rw [prv, if_neg (show ¬ hd L = a from fun e => this (e ▸ hd_mem (by omega))), prv_not h0 this]
theorem prv_iff {L : List Int} {b : Int} (hn : L.Nodup) (hp : Pos L) (hb : b ∈ L) : prv L b = -1 ↔ hd L = b := by
  refine ⟨fun h => ?_, prv_hd hn (hp b hb)⟩
  cases L with
  | nil => cases hb
  | cons a L =>
    rcases List.mem_cons.1 hb with rfl | hb
    · rfl
    · have := hp _ (prv_mem (a := a) hb)
      omega
theorem nxt_ne_hd {L : List Int} {b : Int} (hn : L.Nodup) (hp : Pos L) (hb : b ∈ L) : nxt L b ≠ hd L := by
  cases L with
  | nil => cases hb
  | cons a L =>
    have ha := (List.nodup_cons.1 hn).1
    have h0 := hp.head
    show nxt (a :: L) b ≠ a
    rw [nxt]
    split
    · intro e; exact ha (e ▸ hd_mem (by omega))
    · intro e
      rcases nxt_or L b with h | h
      · omega
      · exact ha (e ▸ h)
theorem hd_erase {L : List Int} {b : Int} (hn : L.Nodup) (hp : Pos L) (hb : b ∈ L) : hd (L.erase b) = if prv L b = -1 then nxt L b else hd L := by
  cases L with
  | nil => cases hb
  | cons a L =>
    by_cases e : a = b
    · subst e
      rw [if_pos ((prv_iff hn hp hb).2 rfl), nxt, if_pos rfl, List.erase_cons_head]
    · rw [if_neg (fun h => e ((prv_iff hn hp hb).1 h)), List.erase_cons_tail (by simpa using e)]
      rfl
theorem prv_erase {b : Int} : ∀ {L : List Int} {x : Int}, L.Nodup → Pos L → b ∈ L → x ∈ L → x ≠ b → prv (L.erase b) x = if nxt L b = x then prv L b else prv L x := by
  intro L
  induction L with
  | nil => intro x _ _ h; cases h
  | cons a L ih =>
    intro x hn hp hb hx hne
    have ha := (List.nodup_cons.1 hn).1
    have hn' := (List.nodup_cons.1 hn).2
    have hp' := hp.tail
    have ha0 := hp.head
    by_cases e : a = b
    · subst e
      have hx' : x ∈ L := (List.mem_cons.1 hx).resolve_left hne
      rw [List.erase_cons_head, nxt, if_pos rfl, (prv_iff hn hp hb).2 rfl, prv]
      by_cases h : hd L = x
      · rw [if_pos h, prv_hd hn' (hp' x hx') h]
      · rw [if_neg h, if_neg h]
    · have hb' : b ∈ L := (List.mem_cons.1 hb).resolve_left (fun h => e h.symm)
      rw [List.erase_cons_tail (by simpa using e)]
      rw [show nxt (a :: L) b = nxt L b from by rw [nxt, if_neg e]]
      by_cases hxa : x = a
      · subst hxa
        rw [if_neg (show ¬ nxt L b = x from fun h => (nxt_or L b).elim (fun h1 => by omega) (fun h1 => ha (h ▸ h1)))]
        rw [prv_hd hn ha0 rfl]
        have hnd : (x :: L.erase b).Nodup := List.nodup_cons.2 ⟨fun h => ha (List.mem_of_mem_erase h), hn'.erase b⟩
        exact prv_hd hnd ha0 rfl
      · have hx' : x ∈ L := (List.mem_cons.1 hx).resolve_left hxa
        rw [prv, hd_erase hn' hp' hb', ih hn' hp' hb' hx' hne, show prv (a :: L) b = if hd L = b then a else prv L b from rfl, show prv (a :: L) x = if hd L = x then a else prv L x from rfl]
        by_cases h1 : hd L = b
        · rw [if_pos ((prv_iff hn' hp' hb').2 h1), if_pos h1, if_neg (show ¬ hd L = x from fun h => hne (h.symm.trans h1))]
          by_cases h2 : nxt L b = x
          · rw [if_pos h2, if_pos h2]
          · rw [if_neg h2, if_neg h2, if_neg h2]
        · rw [if_neg (fun h => h1 ((prv_iff hn' hp' hb').1 h)), if_neg h1]
          by_cases h2 : nxt L b = x
          · rw [if_pos h2, if_pos h2, if_neg (fun h => nxt_ne_hd hn' hp' hb' (h2.trans h.symm))]
          · rw [if_neg h2, if_neg h2]
theorem nxt_erase {b : Int} : ∀ {L : List Int} {x : Int}, L.Nodup → Pos L → b ∈ L → x ∈ L → x ≠ b → nxt (L.erase b) x = if prv L b = x then nxt L b else nxt L x := by
  intro L
  induction L with
  | nil => intro x _ _ h; cases h
  | cons a L ih =>
    intro x hn hp hb hx hne
    have ha := (List.nodup_cons.1 hn).1
    have hn' := (List.nodup_cons.1 hn).2
    have hp' := hp.tail
    have ha0 := hp.head
    have hx0 := hp x hx
    by_cases e : a = b
    · subst e
      have hx' : x ∈ L := (List.mem_cons.1 hx).resolve_left hne
      rw [List.erase_cons_head, (prv_iff hn hp hb).2 rfl, if_neg (by omega), nxt, if_neg (fun h => hne h.symm)]
    · have hb' : b ∈ L := (List.mem_cons.1 hb).resolve_left (fun h => e h.symm)
      rw [List.erase_cons_tail (by simpa using e), show nxt (a :: L) b = nxt L b from by rw [nxt, if_neg e]]
      rw [show prv (a :: L) b = if hd L = b then a else prv L b from rfl]
      by_cases hxa : a = x
      · subst hxa
        rw [nxt, if_pos rfl, hd_erase hn' hp' hb']
        by_cases h1 : hd L = b
        · rw [if_pos ((prv_iff hn' hp' hb').2 h1), if_pos h1, if_pos rfl]
        · rw [if_neg (fun h => h1 ((prv_iff hn' hp' hb').1 h)), if_neg h1, if_neg, nxt, if_pos rfl]
          intro h
          rcases prv_or L b (hp' b hb') with h3 | h3
          · omega
          · exact ha (h ▸ h3)
      · have hx' : x ∈ L := (List.mem_cons.1 hx).resolve_left (fun h => hxa h.symm)
        rw [nxt, if_neg hxa, ih hn' hp' hb' hx' hne, show nxt (a :: L) x = nxt L x from by rw [nxt, if_neg hxa]]
        by_cases h1 : hd L = b
        · rw [if_pos h1, if_neg hxa, if_neg]
          rw [(prv_iff hn' hp' hb').2 h1]; omega
        · rw [if_neg h1]
theorem lst_erase {b : Int} : ∀ {L : List Int}, L.Nodup → Pos L → b ∈ L → lst (L.erase b) = if nxt L b = -1 then prv L b else lst L := by
  intro L
  induction L with
  | nil => intro _ _ h; cases h
  | cons a L ih =>
    intro hn hp hb
    have hn' := (List.nodup_cons.1 hn).2
    have hp' := hp.tail
    by_cases e : a = b
    · subst e
      rw [List.erase_cons_head, nxt, if_pos rfl, (prv_iff hn hp hb).2 rfl, lst_cons]
      by_cases h : L = []
      · subst h; rfl
      · rw [if_neg h, if_neg (fun h2 => h (hd_nil hp' h2))]
    · have hb' : b ∈ L := (List.mem_cons.1 hb).resolve_left (fun h => e h.symm)
      have hL : L ≠ [] := by rintro rfl; cases hb'
      rw [List.erase_cons_tail (by simpa using e), lst_cons, ih hn' hp' hb', show nxt (a :: L) b = nxt L b from by rw [nxt, if_neg e], lst_cons, if_neg hL]
      rw [show prv (a :: L) b = if hd L = b then a else prv L b from rfl]
      by_cases h : L.erase b = []
      · have hh := hd_erase hn' hp' hb'
        rw [h] at hh
        have : hd L = b := by
          apply (prv_iff hn' hp' hb').1
          apply Classical.byContradiction
          intro h1
          rw [if_neg h1] at hh
          exact hL (hd_nil hp' hh.symm)
        rw [if_pos ((prv_iff hn' hp' hb').2 this)] at hh
        rw [if_pos h, if_pos this, if_pos (show nxt L b = -1 from hh.symm)]
      · rw [if_neg h]
        by_cases h2 : nxt L b = -1
        · rw [if_pos h2, if_pos h2]
          split
          · rename_i h1
            have hh := hd_erase hn' hp' hb'
            rw [if_pos ((prv_iff hn' hp' hb').2 h1), h2] at hh
            exact absurd (hd_nil (fun x hx => hp' x (List.mem_of_mem_erase hx)) hh) h
          · rfl
        · rw [if_neg h2, if_neg h2]
theorem nxt_at {L : List Int} : ∀ {k : Nat}, L.Nodup → (h : k < L.length) → nxt L L[k] = hd (L.drop (k + 1)) := by
  induction L with
  | nil => intro k _ h; exact absurd h (Nat.not_lt_zero _)
  | cons a L ih =>
    intro k hn h
    cases k with
    | zero => simp [nxt]
    | succ k =>
      have ha := (List.nodup_cons.1 hn).1
      have hk : k < L.length := by simpa using h
      rw [List.getElem_cons_succ, nxt, if_neg (show ¬ a = L[k] from fun e => ha (e ▸ List.getElem_mem hk)), ih (List.nodup_cons.1 hn).2 hk]
      rfl
theorem hd_drop {L : List Int} {k : Nat} (h : k < L.length) : hd (L.drop k) = L[k] := by
  simp [hd, List.headD_eq_head?_getD, h]
theorem hd_drop_end (L : List Int) : hd (L.drop L.length) = -1 := by simp [hd]

structure Rep (m : Nat) (N : Int → Nd) (E : Nat → En) (S : Nat → List Int) : Prop where
  nodup : ∀ i, (S i).Nodup
  dj : ∀ {i j : Nat} {b : Int}, b ∈ S i → b ∈ S j → i = j
  rng : ∀ {i : Nat} {b : Int}, b ∈ S i → 0 ≤ b ∧ b < 64
  out : ∀ i, m ≤ i → S i = []
  ends : ∀ i, i < m → E i = ⟨hd (S i), lst (S i), (S i).length⟩
  in_ : ∀ {i : Nat} {b : Int}, b ∈ S i → N b = ⟨i, prv (S i) b, nxt (S i) b⟩
  no : ∀ {b : Int}, 0 ≤ b → b < 64 → (∀ i, b ∉ S i) → (N b).l = -1
section
variable {m : Nat} {N : Int → Nd} {E : Nat → En} {S : Nat → List Int}
theorem Rep.pos (h : Rep m N E S) (i : Nat) : Pos (S i) := fun _ hx => (h.rng hx).1
theorem Rep.lt (h : Rep m N E S) {i : Nat} {b : Int} (hb : b ∈ S i) : i < m := by
  apply Classical.byContradiction
  intro hi
  rw [h.out i (by omega)] at hb
  cases hb
def outN (N : Int → Nd) (b : Int) : Int → Nd :=
  let n := N b
  let N1 := if n.a = -1 then N else updI N n.a { N n.a with b := n.b }
  let N2 := if n.b = -1 then N1 else updI N1 n.b { N1 n.b with a := n.a }
  updI N2 b { N2 b with l := -1 }
def outE (E : Nat → En) (i : Nat) (n : Nd) : Nat → En :=
  updN E i ⟨if n.a = -1 then n.b else (E i).f, if n.b = -1 then n.a else (E i).k, (E i).m - 1⟩
def outS (S : Nat → List Int) (i : Nat) (b : Int) : Nat → List Int := updN S i ((S i).erase b)
def frontN (N : Int → Nd) (E : Nat → En) (i : Nat) (b : Int) : Int → Nd :=
  let N1 := updI N b ⟨i, -1, (E i).f⟩
  if (E i).f = -1 then N1 else updI N1 (E i).f { N1 (E i).f with a := b }
def frontE (E : Nat → En) (i : Nat) (b : Int) : Nat → En :=
  updN E i ⟨b, if (E i).f = -1 then b else (E i).k, (E i).m + 1⟩
def frontS (S : Nat → List Int) (i : Nat) (b : Int) : Nat → List Int := updN S i (b :: S i)
theorem outN_at (N : Int → Nd) {b x : Int} (hx : x ≠ b) (hab : (N b).a ≠ b) :
    outN N b x = ⟨(N x).l, if x = (N b).b ∧ (N b).b ≠ -1 then (N b).a else (N x).a, if x = (N b).a ∧ (N b).a ≠ -1 then (N b).b else (N x).b⟩ := by
  unfold outN updI
  dsimp only
  rw [if_neg hx]
  by_cases h1 : (N b).a = -1 <;> by_cases h2 : (N b).b = -1 <;> simp only [h1, h2, if_true, if_false, ne_eq, not_true_eq_false, and_false, not_false_eq_true, and_true] <;> (repeat' split) <;> simp_all
theorem outN_self (N : Int → Nd) (b : Int) : (outN N b b).l = -1 := by simp [outN, updI]
theorem Rep.outs (h : Rep m N E S) {i : Nat} {b : Int} (hb : b ∈ S i) : Rep m (outN N b) (outE E i (N b)) (outS S i b) := by
  have hn := h.nodup i
  have hp := h.pos i
  have hN := h.in_ hb
  have hb0 := hp b hb
  have hab : (N b).a ≠ b := by
    rw [hN]
    intro e
    have e : prv (S i) b = b := e
    cases hs : S i with
    | nil => rw [hs] at hb; cases hb
    | cons a L =>
      rw [hs] at e hb hn
      have ha := (List.nodup_cons.1 hn)
      rw [prv] at e
      split at e
      · rename_i h1
        subst e
        exact ha.1 (h1 ▸ hd_mem (by omega))
      · rename_i h1
        rcases List.mem_cons.1 hb with e2 | e2
        · rw [← e2] at ha
          rw [prv_not hb0 ha.1] at e; omega
        · have hnn := ha.2
          clear hs hN hp h1
          clear hb hn ha
          induction L generalizing a with
          | nil => cases e2
          | cons c L ih =>
            rw [prv] at e
            split at e
            · rename_i h3
              subst e
              exact (List.nodup_cons.1 hnn).1 (h3 ▸ hd_mem (by omega))
            · rename_i h3
              rcases List.mem_cons.1 e2 with e4 | e4
              · rw [← e4] at hnn
                rw [prv_not hb0 (List.nodup_cons.1 hnn).1] at e; omega
              · exact ih a e e4 (List.nodup_cons.1 hnn).2
  have hmem : ∀ {j : Nat} {x : Int}, x ∈ outS S i b j → x ∈ S j ∧ x ≠ b := by
    intro j x hx
    unfold outS updN at hx
    split at hx
    · rename_i e; subst e
      exact ⟨List.mem_of_mem_erase hx, fun e => (List.Nodup.not_mem_erase hn) (e ▸ hx)⟩
    · rename_i e
      exact ⟨hx, fun e2 => e (h.dj (e2 ▸ hx) hb)⟩
  refine ⟨fun j => ?_, fun hx hy => h.dj (hmem hx).1 (hmem hy).1, fun hx => h.rng (hmem hx).1, fun j hj => ?_, fun j hj => ?_, fun {j x} hx => ?_, fun {x} h0 h1 hx => ?_⟩
  · unfold outS updN
    split
    · exact hn.erase b
    · exact h.nodup j
  · have : j ≠ i := fun e => by have := h.lt hb; omega
    unfold outS updN
    rw [if_neg this]; exact h.out j hj
  · unfold outE outS updN
    by_cases e : j = i
    · subst e
      rw [if_pos rfl, if_pos rfl, hN, h.ends j hj, hd_erase hn hp hb, lst_erase hn hp hb, List.length_erase_of_mem hb]
      have : 0 < (S j).length := List.length_pos_of_mem hb
      congr 1
      show ((S j).length : Int) - 1 = (((S j).length - 1 : Nat) : Int)
      omega
    · rw [if_neg e, if_neg e]; exact h.ends j hj
  · have hx1 := (hmem hx).1
    have hne := (hmem hx).2
    have hx0 := (h.rng hx1).1
    rw [outN_at N hne hab, hN, h.in_ hx1]
    dsimp only
    unfold outS updN
    by_cases e : j = i
    · subst e
      rw [if_pos rfl, prv_erase hn hp hb hx1 hne, nxt_erase hn hp hb hx1 hne]
      congr 1
      · by_cases h2 : nxt (S j) b = x
        · rw [if_pos h2, if_pos ⟨h2.symm, by omega⟩]
        · rw [if_neg h2, if_neg (fun h3 => h2 h3.1.symm)]
      · by_cases h2 : prv (S j) b = x
        · rw [if_pos h2, if_pos ⟨h2.symm, by omega⟩]
        · rw [if_neg h2, if_neg (fun h3 => h2 h3.1.symm)]
    · rw [if_neg e, if_neg, if_neg]
      · rintro ⟨h2, h3⟩
        rcases prv_or (S i) b hb0 with h4 | h4
        · exact h3 h4
        · exact e (h.dj hx1 (h2 ▸ h4))
      · rintro ⟨h2, h3⟩
        rcases nxt_or (S i) b with h4 | h4
        · exact h3 h4
        · exact e (h.dj hx1 (h2 ▸ h4))
  · by_cases e : x = b
    · subst e; exact outN_self N _
    · rw [outN_at N e hab]
      refine h.no h0 h1 fun j hj => ?_
      refine hx j ?_
      unfold outS updN
      split
      · rename_i e2; subst e2; exact (List.mem_erase_of_ne e).2 hj
      · exact hj
theorem Rep.fronts (h : Rep m N E S) {i : Nat} {b : Int} (hi : i < m) (h0 : 0 ≤ b) (h1 : b < 64) (hb : ∀ j, b ∉ S j) : Rep m (frontN N E i b) (frontE E i b) (frontS S i b) := by
  have hn := h.nodup i
  have hp := h.pos i
  have hE := h.ends i hi
  have hf : (E i).f = hd (S i) := by rw [hE]
  have hmem : ∀ {j : Nat} {x : Int}, x ∈ frontS S i b j → (x = b ∧ j = i) ∨ (x ∈ S j ∧ x ≠ b) := by
    intro j x hx
    unfold frontS updN at hx
    split at hx
    · rename_i e; subst e
      rcases List.mem_cons.1 hx with e | hx
      · exact .inl ⟨e, rfl⟩
      · exact .inr ⟨hx, fun e => hb j (e ▸ hx)⟩
    · exact .inr ⟨hx, fun e => hb j (e ▸ hx)⟩
  have hfb : hd (S i) ≠ b := fun e => hb i (e ▸ hd_mem (by omega))
  refine ⟨fun j => ?_, fun {j k x} hx hy => ?_, fun hx => ?_, fun j hj => ?_, fun j hj => ?_, fun {j x} hx => ?_, fun {x} h2 h3 hx => ?_⟩
  · unfold frontS updN
    split
    · exact List.nodup_cons.2 ⟨hb i, hn⟩
    · exact h.nodup j
  · rcases hmem hx with ⟨e1, e2⟩ | ⟨e1, e2⟩ <;> rcases hmem hy with ⟨e3, e4⟩ | ⟨e3, e4⟩
    · omega
    · exact absurd e1 e4
    · exact absurd e3 e2
    · exact h.dj e1 e3
  · rcases hmem hx with ⟨e1, e2⟩ | ⟨e1, e2⟩
    · omega
    · exact h.rng e1
  · unfold frontS updN
    rw [if_neg (by omega)]; exact h.out j hj
  · unfold frontE frontS updN
    by_cases e : j = i
    · subst e
      rw [if_pos rfl, if_pos rfl, hE]
      dsimp only
      rw [lst_cons]
      congr 1
      · by_cases h4 : hd (S j) = -1
        · rw [if_pos h4, if_pos (hd_nil hp h4)]
        · rw [if_neg h4, if_neg (fun h5 => h4 (by rw [h5]; rfl))]
    · rw [if_neg e, if_neg e]; exact h.ends j hj
  · unfold frontN
    dsimp only
    rw [hf]
    rcases hmem hx with ⟨rfl, rfl⟩ | ⟨e1, e2⟩
    · have : (⟨(j : Int), -1, hd (S j)⟩ : Nd) = ⟨j, prv (frontS S j x j) x, nxt (frontS S j x j) x⟩ := by
        unfold frontS updN
        rw [if_pos rfl, nxt, if_pos rfl, prv, if_neg hfb, prv_not h0 (hb j)]
      rw [← this]
      split
      · simp [updI]
      · simp [updI, Ne.symm hfb]
    · have hN := h.in_ e1
      have hx0 := (h.rng e1).1
      by_cases e : j = i
      · subst e
        have hS : frontS S j b j = b :: S j := by simp [frontS, updN]
        rw [hS, nxt, if_neg (Ne.symm e2), prv]
        by_cases h4 : hd (S j) = x
        · subst h4
          rw [if_neg (by omega), if_pos rfl]
          simp [updI, hfb, hN]
        · rw [if_neg h4]
          split
          · simp [updI, e2, hN]
          · simp [updI, e2, hN, Ne.symm h4]
      · have hS : frontS S i b j = S j := by simp [frontS, updN, e]
        rw [hS]
        split
        · simp [updI, e2, hN]
        · rename_i h4
          have : x ≠ hd (S i) := fun e3 => e (h.dj e1 (e3 ▸ hd_mem h4))
          simp [updI, e2, hN, this]
  · have hxb : x ≠ b := fun e => hx i (by simp [frontS, updN, e])
    have hxn : ∀ j, x ∉ S j := fun j hj => hx j (by
      unfold frontS updN
      split
      · rename_i e; subst e; exact List.mem_cons_of_mem _ hj
      · exact hj)
    have := h.no h2 h3 hxn
    unfold frontN
    dsimp only
    rw [hf]
    split
    · simpa [updI, hxb] using this
    · rename_i h4
      have : x ≠ hd (S i) := fun e3 => hxn i (e3 ▸ hd_mem h4)
      simpa [updI, hxb, this]
theorem Rep.nil (m : Nat) (N : Int → Nd) (E : Nat → En) (hN : ∀ b, 0 ≤ b → b < 64 → (N b).l = -1) (hE : ∀ i, i < m → E i = ⟨-1, -1, 0⟩) : Rep m N E (fun _ => []) :=
  ⟨fun _ => List.nodup_nil, fun h => (by cases h), fun h => (by cases h), fun _ _ => rfl, hE, fun h => (by cases h), fun h0 h1 _ => hN _ h0 h1⟩
end
end Go.Proofs.YtodephhlhdbeoaaGreat
