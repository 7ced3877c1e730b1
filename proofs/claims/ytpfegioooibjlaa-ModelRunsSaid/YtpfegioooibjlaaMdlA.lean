/- slices.Index, Delete, Insert and Clone at []int, in the words of rows. -/
import Derived.Test.YtpfegioooibjlaaGrid
import Derived.Test.YtpfegioooibjlaaShelf
namespace Go.Proofs.Ytpfegioooibjlaa
open Go.RowKit
set_option linter.unusedVariables false
set_option linter.unusedSimpArgs false
def ints (l : List Int) : List Value := l.map (Value.int .i64)
theorem ints_len (l : List Int) : (ints l).length = l.length := List.length_map ..
theorem ints_at (l : List Int) (j : Nat) (h : j < l.length) : (ints l)[j]? = some (.int .i64 (l.getD j 0)) := by simp [ints, h]
theorem ints_one (l : List Int) : ∀ u ∈ ints l, u.oneCell' = true := fun u hu => by obtain ⟨x, _, rfl⟩ := List.mem_map.1 hu; rfl
def putAt : Array Value → Nat → List Value → Array Value
  | cs, _, [] => cs
  | cs, o, v :: r => putAt (cs.setIfInBounds o v) (o + 1) r
theorem putAt_size : ∀ (vs : List Value) (cs : Array Value) (o : Nat), (putAt cs o vs).size = cs.size
  | [], _, _ => rfl
  | v :: r, cs, o => by rw [putAt, putAt_size r, Array.size_setIfInBounds]
theorem putAt_at : ∀ (vs : List Value) (cs : Array Value) (o j : Nat), j < cs.size → (putAt cs o vs)[j]? = if o ≤ j ∧ j < o + vs.length then vs[j - o]? else cs[j]?
  | [], cs, o, j, _ => by rw [putAt, if_neg (by simp only [List.length_nil]; omega)]
  | v :: r, cs, o, j, hj => by
    rw [putAt, putAt_at r _ _ _ (by rw [Array.size_setIfInBounds]; exact hj), Array.getElem?_setIfInBounds]
    by_cases h1 : o + 1 ≤ j ∧ j < o + 1 + r.length
    · rw [if_pos h1, if_pos (by simp; omega), show j - o = (j - (o + 1)) + 1 by omega]; rfl
    · rw [if_neg h1]
      by_cases h2 : o = j
      · subst h2
        rw [if_pos rfl, if_pos hj, if_pos (by simp), Nat.sub_self]; rfl
      · rw [if_neg h2, if_neg (by simp; omega)]
theorem Box.stores {g : Nat} {t : TypeId} : ∀ (vs : List Value) (w : World) (cs : Array Value) (o : Nat), Box w g t cs → Box (w.setCells g o vs) g t (putAt cs o vs)
  | [], _, _, _, h => h
  | v :: r, w, cs, o, h => Box.stores r _ _ (o + 1) (h.store o v)
theorem Only.stores {S : Nat → Prop} {a : World} {g : Nat} (hg : S g ∨ a.heap.size ≤ g) : ∀ (vs : List Value) (w : World) (o : Nat), Only S a w → Only S a (w.setCells g o vs)
  | [], _, _, h => h
  | v :: r, w, o, h => Only.stores hg r _ (o + 1) (Only.setCell (p := ⟨g, o, none⟩) h hg v)
theorem Row.ofBox {e : TypeId} {w : World} {g cap : Nat} {cur : Array Value} {xs : List Value} (hb : Box w g e cur) (h1 : xs.length ≤ cap) (h2 : cap ≤ cur.size) (h3 : cap ≤ maxLen) (h : ∀ j, j < xs.length → cur[j]? = xs[j]?) : Row e w (.slice (some ⟨g, 0, none⟩) xs.length cap) xs := by
  refine .inr ⟨g, cap, cur, rfl, hb, h1, h2, h3, ?_⟩
  apply List.ext_getElem?
  intro j
  rw [List.getElem?_take]
  split
  · rename_i hj
    rw [Array.getElem?_toList]; exact h j hj
  · rw [List.getElem?_eq_none (by omega)]
/-- a row's block, where the row isn't nil -/
theorem Row.some_ {e : TypeId} {w : World} {g : Nat} {n c : Nat} {o : Nat} {s : Option Nat} {xs : List Value} (h : Row e w (.slice (some ⟨g, o, s⟩) n c) xs) : o = 0 ∧ s = none ∧ n = xs.length ∧ ∃ cur, Box w g e cur ∧ xs.length ≤ c ∧ c ≤ cur.size ∧ c ≤ maxLen ∧ ∀ j, j < xs.length → cur[j]? = xs[j]? := by
  rcases h with ⟨h, _⟩ | ⟨g', cap, cur, h, hb, h1, h2, h3, h4⟩
  · cases h
  · injection h with e1 e2 e3
    injection e1 with e1
    injection e1 with e1 e4 e5
    subst e1 e2 e3 e4 e5
    refine ⟨rfl, rfl, rfl, cur, hb, h1, h2, h3, fun j hj => ?_⟩
    rw [← h4, List.getElem?_take, if_pos hj, Array.getElem?_toList]
theorem Row.cutTo {e : TypeId} {w : World} {A : Option Addr} {n c k : Nat} {xs : List Value} (h : Row e w (.slice A n c) xs) (hk : k ≤ n) : Row e w (.slice A k c) (xs.take k) := by
  rcases h with ⟨h, rfl⟩ | ⟨g, cap, cur, h, hb, h1, h2, h3, h4⟩
  · injection h with e1 e2 e3
    subst e1 e2 e3
    obtain rfl : k = 0 := by omega
    exact .inl ⟨rfl, rfl⟩
  · injection h with e1 e2 e3
    subst e1 e2 e3
    have hl : (xs.take k).length = k := by rw [List.length_take]; omega
    refine .inr ⟨g, c, cur, by rw [hl], hb, by omega, h2, h3, ?_⟩
    rw [hl, ← h4, List.take_take]
    congr 1
    omega
def IdxPost (l : List Int) (x : Int) (w : World) (e : Ending) (w' : World) : Prop := e = .returned (.int .i64 (Lib.idxOf l x)) ∧ w = w'
theorem idx_any (v : Value) (l : List Int) (x : Int) (w : World) (h : Row 3 w v (ints l)) (hl : l.length ≤ 1000000) : Calls Try.prog 19 #[v, .int .i64 x] w (IdxPost l x w) := by
  obtain ⟨A, c, rfl, hc, _⟩ := h.shape
  rw [ints_len]
  cases l with
  | nil =>
    refine (sh_Index_int_empty A c x w).mono ?_
    rintro e w' ⟨rfl, rfl⟩
    exact ⟨rfl, rfl⟩
  | cons y l =>
    obtain ⟨g, o, e1, hcell⟩ := h.srcOf.2 0 _ (ints_at (y :: l) 0 (by simp))
    subst e1
    refine (sh_Index_int g o (y :: l).length c (y :: l) x w (Nat.le_refl _) (by omega) fun j hj => ?_).mono ?_
    · obtain ⟨g', o', e2, hcell⟩ := h.srcOf.2 j _ (ints_at (y :: l) j hj)
      injection e2 with e2
      injection e2 with e2 e3
      subst e2 e3
      exact hcell
    · rintro e w' ⟨rfl, rfl⟩
      rw [List.take_length]
      exact ⟨rfl, rfl⟩
def DelPost (v : Value) (l : List Int) (i : Nat) (w : World) (e : Ending) (w' : World) : Prop :=
  ∃ v', e = .returned v' ∧ Row 3 w' v' (ints (l.eraseIdx i)) ∧ Only (ownB v) w w' ∧ ∀ k, ownB v' k → ownB v k
theorem del_any (v : Value) (l : List Int) (i : Nat) (w : World) (h : Row 3 w v (ints l)) (hi : i < l.length) : Calls Try.prog 20 #[v, .int .i64 i, .int .i64 (i + 1 : Nat)] w (DelPost v l i w) := by
  obtain ⟨A, c, rfl, hc, _⟩ := h.shape
  obtain ⟨g, o, e1, _⟩ := h.srcOf.2 0 _ (ints_at l 0 (by omega))
  subst e1
  obtain ⟨rfl, _, hn, cur, hb, h1, h2, h3, h4⟩ := h.some_
  rw [ints_len] at *
  have hcc : c ≤ 9223372036854775807 := by simpa [maxLen] using h3
  refine (sh_Delete_int_cells g 0 l.length c i (i + 1) l w (Nat.le_refl _) h1 hcc (by omega) (by omega) (fun j hj => ?_) (fun j hj => hb.free _)).mono ?_
  · rw [Nat.zero_add]
    exact hb.cellAt ((h4 j hj).trans (ints_at l j hj))
  · rintro e w' ⟨rfl, q, rfl⟩
    have hel : (l.eraseIdx i).length = l.length - 1 := List.length_eraseIdx_of_lt hi
    refine ⟨_, rfl, ?_, Only.stores (.inl (ownB_slice.2 rfl)) _ _ _ ((Only.refl _ _).drewN q), fun k hk => by rw [ownB_slice] at hk ⊢; exact hk⟩
    have hbx := Box.stores (((l.take l.length).take i ++ (l.take l.length).drop (i + 1) ++ List.replicate (i + 1 - i) 0).map (Value.int .i64)) _ _ 0 (hb.drewN q)
    have := Row.ofBox (cap := c) (xs := ints (l.eraseIdx i)) hbx (by rw [ints_len]; omega) (by rw [putAt_size]; exact h2) h3 (fun j hj => by
      rw [ints_len] at hj
      rw [putAt_at _ _ _ _ (by omega)]
      rw [List.take_length, List.eraseIdx_eq_take_drop_succ] at *
      rw [if_pos (by simp; omega), Nat.sub_zero, List.map_append, List.getElem?_append_left (by simp; simp at hj; omega)]
      rfl)
    rw [ints_len, hel] at this
    rw [show i + 1 - i = 1 by omega] at *
    exact this
def InsPost (v : Value) (l : List Int) (x : Int) (w : World) (e : Ending) (w' : World) : Prop :=
  ∃ g c, e = .returned (.slice (some ⟨g, 0, none⟩) (l.length + 1) c) ∧ Row 3 w' (.slice (some ⟨g, 0, none⟩) (l.length + 1) c) (ints (x :: l)) ∧ Only (ownB v) w w' ∧ (ownB v g ∨ w.heap.size ≤ g) ∧ c ≤ maxLen
theorem ins_any (v : Value) (l : List Int) (x : Int) (vb : Nat) (w : World) (h : Row 3 w v (ints l)) (hl : l.length ≤ 1000000) (hx : Box w vb 3 #[.int .i64 x]) (hvb : ¬ ownB v vb) :
    Calls Try.prog 21 #[v, .int .i64 0, .slice (some ⟨vb, 0, none⟩) 1 1] w (InsPost v l x w) := by
  obtain ⟨A, c, rfl, hc, hm⟩ := h.shape
  rw [ints_len] at *
  have hxs : ∀ (j : Nat) (u : Value), [Value.int .i64 x][j]? = some u → w.cell? ⟨vb, 0 + j, none⟩ = some u := fun j u hj => by
    rw [Nat.zero_add]
    exact hx.cellAt (by simpa using hj)
  have hx1 : ∀ u ∈ [Value.int .i64 x], u.oneCell' = true := fun u hu => by rw [List.mem_singleton.1 hu]; rfl
  have hcc : c ≤ 9223372036854775807 := by simpa [maxLen] using hm
  have hzc : (Value.int .i64 0).cells.size = 1 := rfl
  cases l with
  | nil =>
    by_cases hr : 1 ≤ c
    · -- room
      have hA : ∃ g, A = some ⟨g, 0, none⟩ := by
        rcases h with ⟨h, _⟩ | ⟨g, cap, cur, h, _⟩
        · injection h with _ _ e3; omega
        · injection h with e1; exact ⟨g, e1⟩
      obtain ⟨g, rfl⟩ := hA
      obtain ⟨_, _, _, cur, hb, h1, h2, h3, h4⟩ := h.some_
      refine (sh_Insert_int_end_room g 0 0 c vb 0 1 1 [.int .i64 x] w (by omega) (by omega) hcc rfl (fun j hj => ?_) (fun j hj => hb.free _) hxs hx1).mono ?_
      · rw [hb.cell]; simp; omega
      · rintro e w' ⟨rfl, rfl⟩
        refine ⟨g, c, rfl, ?_, Only.stores (.inl (ownB_slice.2 rfl)) _ _ _ (Only.refl _ _), .inl (ownB_slice.2 rfl), hm⟩
        have hbx := Box.stores [Value.int .i64 x] _ _ 0 hb
        exact Row.ofBox (cap := c) (xs := ints [x]) hbx hr (by rw [putAt_size]; exact h2) hm (fun j hj => by
          have hj : j = 0 := by simpa [ints] using hj
          subst hj
          rw [putAt_at _ _ _ _ (by omega)]; rfl)
    · refine (sh_Insert_int_end_grow A 0 c vb 0 1 1 [] [.int .i64 x] w (by omega) (by omega) (by omega) (by omega) rfl rfl (fun _ => rfl) (fun a _ j u hj => by simp at hj) hxs hx1).mono ?_
      rintro e w' ⟨rfl, rfl⟩
      have hge := grownCap_ge w (0 + 1) c 3
      have hle := grownCap_le_maxLen w (0 + 1) c 3 (by unfold maxLen; omega)
      refine ⟨w.heap.size, _, rfl, ?_, ((Only.refl _ _).drew).alloc _, .inr (Nat.le_refl _), hle⟩
      refine Row.ofBox (cap := grownCap w (0 + 1) c 3) (xs := ints [x]) (Box.fresh w.drew 3 _) hge ?_ hle (fun j hj => ?_)
      · simp only [Array.size_append, List.size_toArray, size_zeroCells, hzc, List.nil_append, List.length_singleton]; omega
      · have hj : j = 0 := by simpa [ints] using hj
        subst hj
        rw [Array.getElem?_append_left (by simp)]; rfl
  | cons y l =>
    obtain ⟨g, o, e1, _⟩ := h.srcOf.2 0 _ (ints_at (y :: l) 0 (by simp))
    subst e1
    obtain ⟨rfl, _, hn, cur, hb, h1, h2, h3, h4⟩ := h.some_
    rw [ints_len] at h1 h4
    have hcs : ∀ (j : Nat) (u : Value), (ints (y :: l))[j]? = some u → w.cell? ⟨g, 0 + j, none⟩ = some u := fun j u hj => by
      rw [Nat.zero_add]
      have hjl : j < (y :: l).length := by rw [← ints_len]; exact (List.getElem?_eq_some_iff.1 hj).1
      exact hb.cellAt ((h4 j hjl).trans hj)
    by_cases hr : (y :: l).length + 1 ≤ c
    · refine (sh_Insert_int_shift g 0 (y :: l).length c 0 vb 0 1 1 (ints (y :: l)) [.int .i64 x] w (by simp) (by omega) hr hcc (fun e => hvb (by subst e; exact ownB_slice.2 rfl)) (ints_len _) rfl hcs (fun j hj => ?_) (fun j hj => hb.free _) hxs (ints_one _) hx1
        3 3 1 cur.size ?_ ?_ (by omega) (hx.free 0) (hx.free 1)).mono ?_
      · rw [hb.cell]; simp; omega
      · have hx' := hx; unfold Box at hx'; simp [World.shape?, hx']
      · have hb' := hb; unfold Box at hb'; simp [World.shape?, hb']
      · rintro e w' ⟨rfl, rfl⟩
        refine ⟨g, c, rfl, ?_, Only.stores (.inl (ownB_slice.2 rfl)) _ _ _ (Only.stores (.inl (ownB_slice.2 rfl)) _ _ _ (Only.refl _ _).drew), .inl (ownB_slice.2 rfl), hm⟩
        have hbx := Box.stores [Value.int .i64 x] _ _ (0 + 0) (Box.stores ((ints (y :: l)).drop 0) _ _ (0 + (0 + 1)) hb.drew)
        have := Row.ofBox (cap := c) (xs := ints (x :: y :: l)) hbx (by rw [ints_len]; exact hr) (by rw [putAt_size, putAt_size]; exact h2) hm (fun j hj => by
          rw [ints_len] at hj
          have hjs : j < cur.size := Nat.lt_of_lt_of_le hj (Nat.le_trans hr h2)
          rw [putAt_at _ _ _ _ (by rw [putAt_size]; exact hjs)]
          cases j with
          | zero => rfl
          | succ j =>
            rw [if_neg (by simp), putAt_at _ _ _ _ hjs, List.drop_zero, ints_len, if_pos (by simp at hj ⊢; omega), show j + 1 - (0 + (0 + 1)) = j by omega]
            rfl)
        rw [ints_len] at this
        exact this
    · refine (sh_Insert_int_grow g 0 (y :: l).length c 0 vb 0 1 1 (ints (y :: l)) [.int .i64 x] w (by simp) (by omega) h1 (by omega) (by omega) (ints_len _) rfl hcs hxs (ints_one _) hx1).mono ?_
      rintro e w' ⟨rfl, rfl⟩
      have hge := grownCap_ge w ((y :: l).length + 1) c 3
      have hle := grownCap_le_maxLen w ((y :: l).length + 1) c 3 (by unfold maxLen; omega)
      refine ⟨w.heap.size, _, rfl, ?_, Only.stores (.inr (Nat.le_refl _)) _ _ _ (Only.drew (Only.stores (.inr (Nat.le_refl _)) _ _ _ (Only.drew ((Only.refl _ _).alloc _)))), .inr (Nat.le_refl _), hle⟩
      have hbx := Box.stores ((ints (y :: l)).drop 0) _ _ (0 + 1) (Box.drew (Box.stores [Value.int .i64 x] _ _ 0 (Box.drew (Box.fresh w 3 (((ints (y :: l)).take 0).toArray ++ Builtin.zeroCells (Value.int .i64 0).cells ((y :: l).length + 1 - 0) ++ Builtin.zeroCells (Value.int .i64 0).cells (grownCap w ((y :: l).length + 1) c 3 - ((y :: l).length + 1)))))))
      have hsz : (((ints (y :: l)).take 0).toArray ++ Builtin.zeroCells (Value.int .i64 0).cells ((y :: l).length + 1 - 0) ++ Builtin.zeroCells (Value.int .i64 0).cells (grownCap w ((y :: l).length + 1) c 3 - ((y :: l).length + 1))).size = grownCap w ((y :: l).length + 1) c 3 := by
        simp only [Array.size_append, List.size_toArray, size_zeroCells, hzc, List.take_zero, List.length_nil]; omega
      have := Row.ofBox (cap := grownCap w ((y :: l).length + 1) c 3) (xs := ints (x :: y :: l)) hbx (by rw [ints_len]; exact hge) (by rw [putAt_size, putAt_size, hsz]; exact Nat.le_refl _) hle (fun j hj => by
        rw [ints_len] at hj
        rw [putAt_at _ _ _ _ (by rw [putAt_size, hsz]; exact Nat.lt_of_lt_of_le hj hge)]
        cases j with
        | zero => rw [if_neg (by simp), putAt_at _ _ _ _ (by rw [hsz]; exact Nat.lt_of_lt_of_le hj hge)]; rfl
        | succ j =>
          rw [List.drop_zero, ints_len, if_pos (by simp at hj ⊢; omega), show j + 1 - (0 + 1) = j by omega]
          rfl)
      rw [ints_len] at this
      exact this
end Go.Proofs.Ytpfegioooibjlaa
