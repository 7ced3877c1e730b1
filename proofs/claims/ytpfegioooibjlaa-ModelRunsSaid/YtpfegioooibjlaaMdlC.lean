/- The document's words for the model: SameInts, Has, All, Part. -/
import Derived.Test.YtpfegioooibjlaaMdlB
namespace Go.Proofs.Ytpfegioooibjlaa
open Go.RowKit
set_option linter.unusedVariables false
set_option linter.unusedSimpArgs false
theorem intInfo : (Try.prog.info? 3).map (fun i => (i.zero, i.size, i.bytes)) = some (some (.int .i64 0), 1, 8) := by kernel_rfl
section
set_option maxHeartbeats 1000000
def SameRel (la : List Int) (lb : List Int) (w : World) (i : Value) (wr : World) : Prop := ∃ k : Nat, k ≤ la.length ∧ i = .int .i64 k ∧ (∀ j, j < k → la.getD j 0 = lb.getD j 0) ∧ ∃ m, w.drewN m = wr
theorem same_yes (la lb : List Int) (hl : la.length = lb.length) (h : ∀ j, j < la.length → la.getD j 0 = lb.getD j 0) : la = lb := by
  apply List.ext_getElem hl
  intro i h1 h2
  have := h i h1
  simpa [List.getD, h1, h2] using this
theorem sameInts_any (A B : Option Addr) (ca cb : Nat) (la lb : List Int) (w : World) (ha : IntsAt w (.slice A la.length ca) la) (hb : IntsAt w (.slice B lb.length cb) lb) (h1 : la.length ≤ maxLen) (h2 : lb.length ≤ maxLen) :
    Calls Try.prog 13 #[.slice A la.length ca, .slice B lb.length cb] w fun e w' => e = .returned (.bool (decide (la = lb))) ∧ ∃ m, w.drewN m = w' := by
  unfold maxLen at h1 h2
  by_cases hl : la.length = lb.length
  · have hln : ((la.length : Int) != (lb.length : Int)) = false := by simp [hl]
    have Hl := Lib.hid hl
    have hll : la.length ≤ lb.length := by omega
    clear hl
    go_enter Try.func13, Try.ntmps13
    go_wp2_with fail
    go_loopw [5] (fun i wr => SameRel la lb w i wr) (fun i _ => la.length - (intOf i).toNat)
    case atStart => exact ⟨0, by omega, rfl, fun j hj => absurd hj (by omega), 0, rfl⟩
    case round =>
      obtain ⟨k, hk, rfl, heq, m, rfl⟩ := hrel
      have Heq := Lib.hid heq; clear heq
      by_cases hlt : k < la.length
      · obtain ⟨g, o, rfl, hc⟩ := ha.cellAt hlt
        obtain ⟨g', o', rfl, hc'⟩ := hb.cellAt (show k < lb.length by omega)
        generalize hx : la.getD k 0 = x at *
        generalize hy : lb.getD k 0 = y at *
        have Hx := Lib.hid hx
        have Hy := Lib.hid hy
        clear hx hy
        by_cases hxy : x = y
        · subst hxy
          have hltb : (k : Int) < lb.length := by omega
          have hlta : (k : Int) < la.length := by omega
          go_wp2_with fail
          go_quiet (fail)
          go_wp2
          go_roundw
          case rel => exact ⟨k + 1, by omega, by go_num, fun j hj => by
            rcases Nat.lt_or_ge j k with h | h
            · exact Heq.out j h
            · obtain rfl : j = k := by omega
              rw [Hx.out, Hy.out], _, rfl⟩
          case measure => simp [intOf]; omega
        · have hne : (x != y) = true := by simp [hxy]
          have hltb : (k : Int) < lb.length := by omega
          have hlta : (k : Int) < la.length := by omega
          have hf : decide (la = lb) = false := decide_eq_false fun e => hxy (by rw [← Hx.out, ← Hy.out, e])
          have Hf := Lib.hid hf
          clear hf hxy
          go_wp2_with fail
          go_quiet (fail)
          go_wp2
          go_ret
          exact ⟨by rw [Hf.out]; rfl, _, (World.drewN_drewN _ _ _).symm⟩
      · have hf : decide (la = lb) = true := decide_eq_true (same_yes la lb Hl.out fun j hj => Heq.out j (by omega))
        have Hf := Lib.hid hf
        clear hf
        go_wp2_with fail
        go_ret
        exact ⟨by rw [Hf.out]; rfl, _, rfl⟩
  · have hln : ((la.length : Int) != (lb.length : Int)) = true := by simp; omega
    have hf : decide (la = lb) = false := decide_eq_false fun e => hl (by rw [e])
    have Hf := Lib.hid hf
    clear hl hf
    go_enter Try.func13, Try.ntmps13
    go_wp2_with fail
    go_ret
    exact ⟨by rw [Hf.out]; rfl, 0, rfl⟩
theorem sameInts_call (A B : Option Addr) (n m ca cb : Nat) (la lb : List Int) (w : World) (ha : IntsAt w (.slice A n ca) la) (hb : IntsAt w (.slice B m cb) lb) (h1 : n ≤ maxLen) (h2 : m ≤ maxLen) :
    Calls Try.prog 13 #[.slice A n ca, .slice B m cb] w fun e w' => e = .returned (.bool (decide (la = lb))) ∧ ∃ m, w.drewN m = w' := by
  obtain rfl := ha.len
  obtain rfl := hb.len
  exact sameInts_any A B ca cb la lb w ha hb h1 h2


def HasRel (l : List Int) (x : Int) (w : World) (i : Value) (wr : World) : Prop := ∃ k : Nat, k ≤ l.length ∧ i = .int .i64 k ∧ (∀ j, j < k → l.getD j 0 ≠ x) ∧ w = wr
theorem has_at (l : List Int) (x : Int) : x ∈ l ↔ ∃ j, j < l.length ∧ l.getD j 0 = x := by
  rw [List.mem_iff_getElem]
  constructor
  · rintro ⟨j, hj, rfl⟩; exact ⟨j, hj, by simp [hj]⟩
  · rintro ⟨j, hj, h⟩; exact ⟨j, hj, by simpa [hj] using h⟩
theorem has_ints (A : Option Addr) (c n : Nat) (l : List Int) (x : Int) (w : World) (ha : IntsAt w (.slice A n c) l) (hn : n ≤ maxLen) :
    Calls Try.prog 11 #[.slice A n c, .int .i64 x] w fun e w' => e = .returned (.bool (decide (x ∈ l))) ∧ w = w' := by
  obtain rfl := ha.len
  unfold maxLen at hn
  have Ha := Lib.hid ha
  clear ha
  go_enter Try.func11, Try.ntmps11
  go_wp2_with fail
  go_loopw [5] (fun i wr => HasRel l x w i wr) (fun i _ => l.length - (intOf i).toNat)
  case atStart => exact ⟨0, by omega, rfl, fun j hj => absurd hj (by omega), rfl⟩
  case round =>
    obtain ⟨k, hk, rfl, hne, rfl⟩ := hrel
    have Hne := Lib.hid hne; clear hne
    by_cases hlt : k < l.length
    · obtain ⟨g, o, rfl, hc⟩ := Ha.out.cellAt hlt
      have hltb : (k : Int) < l.length := by omega
      generalize hy : l.getD k 0 = y at *
      have Hy := Lib.hid hy
      clear hy
      by_cases hxy : y = x
      · subst hxy
        have hf : decide (y ∈ l) = true := decide_eq_true ((has_at l y).2 ⟨k, hlt, Hy.out⟩)
        have Hf := Lib.hid hf
        clear hf
        go_wp2_with fail
        go_ret
        exact ⟨by rw [Hf.out]; rfl, rfl⟩
      · have hxb : (y == x) = false := by simp [hxy]
        go_wp2_with fail
        go_roundw
        case rel => exact ⟨k + 1, by omega, by go_num, fun j hj => by
          rcases Nat.lt_or_ge j k with h | h
          · exact Hne.out j h
          · obtain rfl : j = k := by omega
            rw [Hy.out]; exact hxy, by trivial⟩
        case measure => simp [intOf]; omega
    · have hf : decide (x ∈ l) = false := decide_eq_false fun h => by
        obtain ⟨j, hj, h⟩ := (has_at l x).1 h
        exact Hne.out j (by omega) h
      have Hf := Lib.hid hf
      clear hf
      go_wp2_with fail
      go_ret
      exact ⟨by rw [Hf.out]; rfl, rfl⟩
def allGo (most : Nat) : List Int → List Int → List Int
  | [], out => out
  | x :: xs, out => if out.length < most then allGo most xs (if x ∈ out then out else out ++ [x]) else out
def refAll (used : List Int) (most : Nat) : List Int := allGo most used.reverse []
theorem allGo_full (most : Nat) (l out : List Int) (h : ¬ out.length < most) : allGo most l out = out := by
  cases l with
  | nil => rfl
  | cons x l => rw [allGo, if_neg h]
def AllRel (used : List Int) (most : Nat) (w : World) (out i : Value) (wr : World) : Prop :=
  ∃ (k : Nat) (o : List Int), k ≤ used.length ∧ i = .int .i64 (k - 1 : Int) ∧ OwnInts 3 wr w.heap.size out o ∧ o.length ≤ used.length - k ∧ allGo most (used.take k).reverse o = refAll used most ∧ Only Non w wr
theorem refall_any (A : Option Addr) (c n most : Nat) (used : List Int) (w : World) (ha : IntsAt w (.slice A n c) used) (hn : n ≤ 100000) (hm : most ≤ 1000) :
    Calls Try.prog 12 #[.slice A n c, .int .i64 most] w fun e w' => ∃ v, e = .returned v ∧ OwnInts 3 w' w.heap.size v (refAll used most) ∧ Only Non w w' := by
  obtain rfl := ha.len
  have Ha := Lib.hid ha
  clear ha
  go_enter Try.func12, Try.ntmps12
  go_wp2_with fail
  go_loopw [5, 6] (fun out i wr => AllRel used most w out i wr) (fun _ i _ => (intOf i + 1).toNat)
  case atStart => exact ⟨used.length, [], Nat.le_refl _, rfl, World.ownsRow_nil _ _ _ _, by simp, by rw [List.take_length]; rfl, Only.refl _ _⟩
  case round =>
    obtain ⟨k, o, hk, rfl, hown, hol, heq, ho⟩ := hrel
    obtain ⟨Ao, co, hvo, ho1, ho2⟩ := hown.shape
    have Hown := Lib.hid hown
    have Heq := Lib.hid heq
    have Ho := Lib.hid ho
    clear hown heq ho
    subst hvo
    by_cases h0 : 0 < k
    · by_cases hlt : o.length < most
      · have ha2 := Ha.out.keep Ho.out fun _ _ _ _ _ => id
        obtain ⟨g, oo, rfl, hc⟩ := ha2.cellAt (show k - 1 < used.length by omega)
        rw [show (((oo + (k - 1) : Nat)) : Nat) = oo + (k - 1) from rfl] at hc
        have hk1 : ((k : Int) - 1).toNat = k - 1 := by omega
        have hke : (used.take k).reverse = used.getD (k - 1) 0 :: (used.take (k - 1)).reverse := by
          obtain ⟨j, rfl⟩ : ∃ j, k = j + 1 := ⟨k - 1, by omega⟩
          rw [List.take_succ_eq_append_getElem (by omega), List.reverse_append, Nat.add_sub_cancel]
          simp [show j < used.length by omega]
        have hH := has_ints Ao co o.length o (used.getD (k - 1) 0) wr Hown.out.at (by unfold maxLen at *; omega)
        have heq2 := Heq.out
        rw [hke, allGo, if_pos hlt] at heq2
        clear ha2 hke
        generalize used.getD (k - 1) 0 = x at *
        have Heq2 := Lib.hid heq2
        have hsz := Ho.out.size
        clear heq2
        by_cases hin : x ∈ o
        · rw [decide_eq_true hin] at hH
          have HH := Lib.hid hH
          have Hin := Lib.hid hin
          clear hH hin
          go_wp2_with (go_at_call 11; refine HH.out.mono ?_; rintro e w' ⟨rfl, rfl⟩)
          refine ⟨⟨k - 1, o, by omega, by congr 1; omega, Hown.out, by omega, ?_, Ho.out⟩, by simp [intOf]; omega⟩
          have := Heq2.out
          rw [if_pos Hin.out] at this
          exact this
        · rw [decide_eq_false hin] at hH
          have HH := Lib.hid hH
          have Hin := Lib.hid hin
          clear hH hin
          have hol1 : o.length ≤ 1000000 := by omega
          go_wp2_with (first
            | (go_at_call 11; refine HH.out.mono ?_; rintro e w' ⟨rfl, rfl⟩)
            | (at_builtin; refine wpList_pushInt _ rfl (.tmp 27) (.tmp 32) 23 3 rfl intInfo Try.underlying23 w.heap.size (.slice Ao o.length co) o x rfl (show OwnInts _ _ _ _ o from Hown.out.alloc _) ⟨wr.heap.size, 0, none⟩ rfl (World.cell?_alloc_at _ _ _ _ rfl) hol1 (by simp; omega) ?_; intro v' w1 hown' hgrow))
          refine ⟨⟨k - 1, o ++ [x], by omega, by congr 1; omega, hown', by simp; omega, ?_, (Ho.out.alloc _).trans' hgrow fun g hg => .inr (Hown.out.lt g hg).1⟩, by simp [intOf]; omega⟩
          have := Heq2.out
          rw [if_neg Hin.out] at this
          exact this
      · have he := Heq.out
        rw [allGo_full most _ _ hlt] at he
        have He := Lib.hid he
        clear he
        go_wp2_with fail
        go_ret
        exact ⟨_, rfl, by rw [← He.out]; exact Hown.out, Ho.out⟩
    · obtain rfl : k = 0 := by omega
      have he := Heq.out
      simp only [List.take_zero, List.reverse_nil, allGo] at he
      have He := Lib.hid he
      clear he
      go_wp2_with fail
      go_ret
      exact ⟨_, rfl, by rw [← He.out]; exact Hown.out, Ho.out⟩
def PartRel (l : List Int) (a m : Nat) (w : World) (out i : Value) (wr : World) : Prop :=
  ∃ k : Nat, k ≤ m ∧ i = .int .i64 (a + k : Nat) ∧ OwnInts 3 wr w.heap.size out ((l.drop a).take k) ∧ Only Non w wr
theorem part_any (A : Option Addr) (c n a m : Nat) (l : List Int) (w : World) (ha : IntsAt w (.slice A n c) l) (hn : n ≤ 100000) (hm : m ≤ 1000) (ha0 : a ≤ 1000) :
    Calls Try.prog 17 #[.slice A n c, .int .i64 a, .int .i64 m] w fun e w' => ∃ v, e = .returned v ∧ OwnInts 3 w' w.heap.size v ((l.drop a).take m) ∧ Only Non w w' := by
  obtain rfl := ha.len
  have Ha := Lib.hid ha
  clear ha
  go_enter Try.func17, Try.ntmps17
  go_wp2_with fail
  go_loopw [7, 8] (fun out i wr => PartRel l a m w out i wr) (fun _ i _ => (a + m) - (intOf i).toNat)
  case atStart => exact ⟨0, Nat.zero_le _, rfl, World.ownsRow_nil _ _ _ _, Only.refl _ _⟩
  case round =>
    obtain ⟨k, hk, rfl, hown, ho⟩ := hrel
    obtain ⟨Ao, co, hvo, ho1, ho2⟩ := hown.shape
    have Hown := Lib.hid hown
    have Ho := Lib.hid ho
    have hol : ((l.drop a).take k).length ≤ 1000 := by rw [List.length_take]; omega
    clear hown ho
    subst hvo
    generalize hon : ((l.drop a).take k).length = on at *
    have Hon := Lib.hid hon
    clear hon
    generalize hak : a + k = p at *
    have Hak := Lib.hid hak
    have h3 : p ≤ 2000 := by omega
    by_cases hlt : p < l.length
    · by_cases hkm : k < m
      · have h2 : (p : Int) < (a : Int) + m := by omega
        have ha2 := Ha.out.keep Ho.out fun _ _ _ _ _ => id
        obtain ⟨g, oo, rfl, hc⟩ := ha2.cellAt hlt
        have hsu : (l.drop a).take (k + 1) = (l.drop a).take k ++ [l.getD p 0] := by
          subst hak
          rw [List.take_succ_eq_append_getElem (by simp; omega)]
          simp [hlt]
        have Hsu := Lib.hid hsu
        have hsz := Ho.out.size
        have hol1 : ((l.drop a).take k).length ≤ 1000000 := by rw [Hon.out]; omega
        have Hol1 := Lib.hid hol1
        have Hkm := Lib.hid hkm
        clear ha2 hsu hol1 hak hkm
        generalize l.getD p 0 = x at *
        go_wp2_with (at_builtin; refine wpList_pushInt _ rfl (.tmp 23) (.tmp 28) 23 3 rfl intInfo Try.underlying23 w.heap.size (.slice Ao on co) ((l.drop a).take k) x rfl (by have := Hown.out.alloc (.cells #[.int .i64 x] 3); exact this) ⟨wr.heap.size, 0, none⟩ rfl (World.cell?_alloc_at _ _ _ _ rfl) Hol1.out (by simp; omega) ?_; intro v' w1 hown' hgrow)
        have hak := Hak.out
        have hkm := Hkm.out
        refine ⟨⟨k + 1, by omega, by congr 1; omega, by rw [Hsu.out]; exact hown', (Ho.out.alloc _).trans' hgrow fun g hg => .inr (Hown.out.lt g hg).1⟩, by simp [intOf]; omega⟩
      · have h2 : ¬ (p : Int) < (a : Int) + m := by omega
        have he : (l.drop a).take m = (l.drop a).take k := by congr 1; omega
        have He := Lib.hid he
        clear he hak hkm
        go_wp2_with fail
        go_ret
        exact ⟨_, rfl, by rw [He.out]; exact Hown.out, Ho.out⟩
    · have he : (l.drop a).take m = (l.drop a).take k := by
        rw [List.take_eq_take_iff]; simp; omega
      have He := Lib.hid he
      clear he hak
      go_wp2_with fail
      go_ret
      exact ⟨_, rfl, by rw [He.out]; exact Hown.out, Ho.out⟩
end
end Go.Proofs.Ytpfegioooibjlaa
