/- A net in memory: rows of frames; which blocks are its own. -/
import Derived.Test.YtlagccfllnhgbaaProg
import Derived.Test.YtlagccfllnhgbaaGrid
namespace Go.Proofs.Ytlagccfllnhgbaa
open Go.RowKit
set_option linter.unusedVariables false

/-- The slice v reads as the bytes l. -/
def Byt (w : World) (v : Value) (l : List Int) : Prop := ∃ A c, v = .slice A l.length c ∧ l.length ≤ c ∧ l.length ≤ 140737488355328 ∧ Src w A (l.map (Value.int .u8))
theorem Byt.only {S : Nat → Prop} {w w' : World} {v : Value} {l : List Int} (h : Byt w v l) (ho : Only S w w') (hn : ∀ k, ownB v k → ¬ S k) : Byt w' v l := by
  obtain ⟨A, c, rfl, h1, h2, h3⟩ := h
  exact ⟨A, c, rfl, h1, h2, h3.only ho fun g o e _ => hn g (by subst e; exact ownB_slice.2 rfl)⟩

theorem Byt.keep {S : Nat → Prop} {w w' : World} {v : Value} {l : List Int} (h : Byt w v l) (ho : Only S w w') (hn : 0 < l.length → ∀ k, ownB v k → k < w.heap.size → ¬ S k) : Byt w' v l := by
  obtain ⟨A, c, rfl, h1, h2, h3⟩ := h
  by_cases hz : 0 < l.length
  · exact ⟨A, c, rfl, h1, h2, h3.only ho fun g o e hg => hn hz g (by subst e; exact ownB_slice.2 rfl) hg⟩
  · have : l = [] := List.eq_nil_of_length_eq_zero (by omega)
    subst this
    exact ⟨A, c, rfl, h1, h2, Src.nil_ _ _⟩

abbrev Cont := List (List (List Int))
def Cont.row (c : Cont) (j : Nat) : List (List Int) := c.getD j []

structure NetAt (T : TypeId) (w : World) (base nb : Nat) (F H : Nat → Prop) (hv : Value) (vs : List Value) (rows : List (List Value)) (c : Cont) : Prop where
  box : Box w nb T #[hv]
  top : Row 22 w hv vs
  nrows : rows.length = vs.length
  nc : c.length = vs.length
  c32 : c.length ≤ 32
  row : ∀ j, j < vs.length → Row 26 w (vs.getD j undef) (rows.getD j [])
  clen : ∀ j, j < vs.length → (rows.getD j []).length = (c.row j).length
  c400 : ∀ j, j < vs.length → (c.row j).length ≤ 400
  fr : ∀ j i, j < vs.length → i < (c.row j).length → Byt w ((rows.getD j []).getD i undef) ((c.row j).getD i []) ∧ ∀ k, ownB ((rows.getD j []).getD i undef) k → H k
  dist : ∀ i j k, i < j → j < vs.length → ownB (vs.getD i undef) k → ¬ ownB (vs.getD j undef) k
  foot : ∀ k, F k ↔ k = nb ∨ ownB hv k ∨ ∃ j, j < vs.length ∧ ownB (vs.getD j undef) k
  hi : ∀ k, F k → base ≤ k
  hbox : ∀ k, H k → k < w.heap.size ∧ (k < base ∨ ∃ cs, Box w k 5 cs)
  tT : T ≠ 5 ∧ T ≠ 26 ∧ T ≠ 22
def NetIs (T : TypeId) (w : World) (base nb : Nat) (F H : Nat → Prop) (c : Cont) : Prop := ∃ hv vs rows, NetAt T w base nb F H hv vs rows c

section
variable {T : TypeId} {w w' : World} {base nb : Nat} {F H S : Nat → Prop} {hv : Value} {vs : List Value} {rows : List (List Value)} {c : Cont}
theorem NetAt.fbox (h : NetAt T w base nb F H hv vs rows c) {k : Nat} (hk : F k) : ∃ t cs, Box w k t cs ∧ t ≠ 5 := by
  rcases (h.foot k).1 hk with rfl | hk | ⟨j, hj, hk⟩
  · exact ⟨T, _, h.box, h.tT.1⟩
  · obtain ⟨cs, hb⟩ := h.top.box hk; exact ⟨_, cs, hb, by decide⟩
  · obtain ⟨cs, hb⟩ := (h.row j hj).box hk; exact ⟨_, cs, hb, by decide⟩
theorem NetAt.flt (h : NetAt T w base nb F H hv vs rows c) {k : Nat} (hk : F k) : k < w.heap.size := by
  obtain ⟨t, cs, hb, _⟩ := h.fbox hk; exact hb.lt
theorem NetAt.fh (h : NetAt T w base nb F H hv vs rows c) {k : Nat} (hk : F k) : ¬ H k := by
  intro hh
  obtain ⟨t, cs, hb, ht⟩ := h.fbox hk
  rcases (h.hbox k hh).2 with h1 | ⟨cs', h1⟩
  · have := h.hi k hk; omega
  · exact ht (hb.same h1).1
theorem NetAt.only (h : NetAt T w base nb F H hv vs rows c) (ho : Only S w w') (hF : ∀ k, F k → ¬ S k) (hH : ∀ k, H k → ¬ S k) : NetAt T w' base nb F H hv vs rows c :=
  { h with
    box := ho.box h.box (hF _ ((h.foot _).2 (.inl rfl)))
    top := h.top.only ho fun k hk => hF k ((h.foot k).2 (.inr (.inl hk)))
    row := fun j hj => (h.row j hj).only ho fun k hk => hF k ((h.foot k).2 (.inr (.inr ⟨j, hj, hk⟩)))
    fr := fun j i hj hi => ⟨(h.fr j i hj hi).1.only ho fun k hk => hH k ((h.fr j i hj hi).2 k hk), (h.fr j i hj hi).2⟩
    hbox := fun k hk => ⟨Nat.lt_of_lt_of_le (h.hbox k hk).1 ho.size, (h.hbox k hk).2.imp id fun ⟨cs, hb⟩ => ⟨cs, ho.box hb (hH k hk)⟩⟩ }
theorem NetIs.only (h : NetIs T w base nb F H c) (ho : Only S w w') (hF : ∀ k, F k → ¬ S k) (hH : ∀ k, H k → ¬ S k) : NetIs T w' base nb F H c := by
  obtain ⟨hv, vs, rows, h⟩ := h
  exact ⟨hv, vs, rows, h.only ho hF hH⟩
theorem NetIs.keep (h : NetIs T w base nb F H c) (ho : Only Non w w') : NetIs T w' base nb F H c := h.only ho (fun _ _ => id) (fun _ _ => id)

/-- what a walk loads on its way to row j -/
theorem NetAt.head (h : NetAt T w base nb F H hv vs rows c) : ∃ A cp, hv = .slice A vs.length cp ∧ w.cell? ⟨nb, 0, none⟩ = some (.slice A vs.length cp) ∧ vs.length ≤ cp ∧ cp ≤ maxLen := by
  obtain ⟨A, cp, e, h1, h2⟩ := h.top.shape
  exact ⟨A, cp, e, by rw [← e]; exact h.box.cellAt rfl, h1, h2⟩
theorem NetAt.way (h : NetAt T w base nb F H hv vs rows c) {j : Nat} (hj : j < vs.length) : ∃ wb cp A cq, hv = .slice (some ⟨wb, 0, none⟩) vs.length cp ∧
    w.cell? ⟨nb, 0, none⟩ = some (.slice (some ⟨wb, 0, none⟩) vs.length cp) ∧ vs.getD j undef = .slice A (c.row j).length cq ∧ w.cell? ⟨wb, j, none⟩ = some (.slice A (c.row j).length cq) ∧ w.frozen? ⟨wb, j, none⟩ = false ∧
    (c.row j).length ≤ cq ∧ cq ≤ maxLen := by
  have hu : vs[j]? = some (vs.getD j undef) := by simp [hj]
  obtain ⟨wb, cp, e, hc, hf⟩ := h.top.cell hu
  obtain ⟨A, cq, e2, h1, h2⟩ := (h.row j hj).shape
  rw [h.clen j hj] at e2 h1
  exact ⟨wb, cp, A, cq, e, by rw [← e]; exact h.box.cellAt rfl, e2, by rw [← e2]; exact hc, hf, h1, h2⟩
end

def thereC (c : Cont) (way : Int) : Bool := decide (0 ≤ way) && decide (way < c.length)
def hasC (c : Cont) (way i : Int) : Bool := thereC c way && decide (0 ≤ i) && decide (i < (c.row way.toNat).length)

section
set_option maxHeartbeats 1000000
theorem nthere_nil (way : Int) (w : World) : Calls Try.prog 41 #[.pointer none, .int .i64 way] w fun e w' => e = .returned (.bool false) ∧ w = w' := by
  go_enter Try.func41, Try.ntmps41
  go_wp2
  go_ret
  exact ⟨rfl, rfl⟩
def thereN (n : Nat) (way : Int) : Bool := decide (0 ≤ way) && decide (way < n)
theorem nthere_core (nb n cp : Nat) (A : Option Addr) (way : Int) (w : World) (hn : n ≤ 32) (h0 : w.cell? ⟨nb, 0, none⟩ = some (.slice A n cp)) :
    Calls Try.prog 41 #[.pointer (some ⟨nb, 0, none⟩), .int .i64 way] w fun e w' => e = .returned (.bool (thereN n way)) ∧ w = w' := by
  go_enter Try.func41, Try.ntmps41
  go_wp2
  all_goals go_ret
  all_goals (refine ⟨?_, rfl⟩; simp [thereN, *] <;> omega)
theorem nthere_any (nb base : Nat) (F H : Nat → Prop) (c : Cont) (way : Int) (w : World) (h : NetIs 75 w base nb F H c) :
    Calls Try.prog 41 #[.pointer (some ⟨nb, 0, none⟩), .int .i64 way] w fun e w' => e = .returned (.bool (thereC c way)) ∧ w = w' := by
  obtain ⟨hv, vs, rows, h⟩ := h
  obtain ⟨A, cp, _, hc, _, _⟩ := h.head
  have := nthere_core nb vs.length cp A way w (by rw [← h.nc]; exact h.c32) hc
  rw [← h.nc] at this
  exact this
theorem nhas_no (p : Option Addr) (way i : Int) (w : World) (ht : Calls Try.prog 41 #[.pointer p, .int .i64 way] w fun e w' => e = .returned (.bool false) ∧ w = w') :
    Calls Try.prog 54 #[.pointer p, .int .i64 way, .int .i64 i] w fun e w' => e = .returned (.bool false) ∧ w = w' := by
  have H := Lib.hid ht; clear ht
  go_enter Try.func54, Try.ntmps54
  go_wp2_with (go_at_call 41; refine H.out.mono ?_; rintro e w' ⟨rfl, rfl⟩)
  go_ret
  exact ⟨rfl, rfl⟩
def hasN (n : Nat) (i : Int) : Bool := decide (0 ≤ i) && decide (i < n)
theorem nhas_core (nb wb n cp ln cq : Nat) (A : Option Addr) (way i : Int) (w : World) (hw0 : 0 ≤ way) (hw1 : way < n) (hn : n ≤ 32) (hl : ln ≤ 400) (h0 : w.cell? ⟨nb, 0, none⟩ = some (.slice (some ⟨wb, 0, none⟩) n cp))
    (h1 : w.cell? ⟨wb, way.toNat, none⟩ = some (.slice A ln cq))
    (ht : Calls Try.prog 41 #[.pointer (some ⟨nb, 0, none⟩), .int .i64 way] w fun e w' => e = .returned (.bool true) ∧ w = w') :
    Calls Try.prog 54 #[.pointer (some ⟨nb, 0, none⟩), .int .i64 way, .int .i64 i] w fun e w' => e = .returned (.bool (hasN ln i)) ∧ w = w' := by
  have H := Lib.hid ht; clear ht
  go_enter Try.func54, Try.ntmps54
  go_wp2_with (go_at_call 41; refine H.out.mono ?_; rintro e w' ⟨rfl, rfl⟩)
  all_goals go_ret
  all_goals (refine ⟨?_, rfl⟩; simp [hasN, *] <;> omega)
theorem nhas_any (nb base : Nat) (F H : Nat → Prop) (c : Cont) (way i : Int) (w : World) (h : NetIs 75 w base nb F H c) :
    Calls Try.prog 54 #[.pointer (some ⟨nb, 0, none⟩), .int .i64 way, .int .i64 i] w fun e w' => e = .returned (.bool (hasC c way i)) ∧ w = w' := by
  have ht := nthere_any nb base F H c way w h
  cases hb : thereC c way
  · rw [hb] at ht
    rw [show hasC c way i = false from by simp [hasC, hb]]
    exact nhas_no _ way i w ht
  · rw [hb] at ht
    obtain ⟨hv, vs, rows, h⟩ := h
    simp only [thereC, Bool.and_eq_true, decide_eq_true_eq] at hb
    have hnc := h.nc
    obtain ⟨wb, cp, A, cq, _, h0, _, h1, _, _, _⟩ := h.way (j := way.toNat) (by omega)
    have := nhas_core nb wb vs.length cp (c.row way.toNat).length cq A way i w hb.1 (by omega) (by rw [← hnc]; exact h.c32) (h.c400 _ (by omega)) h0 h1 ht
    rw [show hasC c way i = hasN (c.row way.toNat).length i from by simp [hasC, hasN, thereC, hb.1, hb.2]]
    exact this
def wrongN (b : Bool) : Int := if b then 0 else 5
theorem nwrong_nil (way i : Int) (w : World) : Calls Try.prog 43 #[.pointer none, .int .i64 way, .int .i64 i] w fun e w' => e = .returned (.int .i64 7) ∧ w = w' := by
  go_enter Try.func43, Try.ntmps43
  go_wp2_with fail
  go_ret
  exact ⟨rfl, rfl⟩
theorem nwrong_core (a : Addr) (way i : Int) (b : Bool) (w : World) (ht : Calls Try.prog 54 #[.pointer (some a), .int .i64 way, .int .i64 i] w fun e w' => e = .returned (.bool b) ∧ w = w') :
    Calls Try.prog 43 #[.pointer (some a), .int .i64 way, .int .i64 i] w fun e w' => e = .returned (.int .i64 (wrongN b)) ∧ w = w' := by
  have H := Lib.hid ht; clear ht
  cases b
  all_goals
    go_enter Try.func43, Try.ntmps43
    go_wp2_with (go_at_call 54; refine H.out.mono ?_; rintro e w' ⟨rfl, rfl⟩)
    go_ret
    exact ⟨rfl, rfl⟩
theorem nwrong_any (nb base : Nat) (F H : Nat → Prop) (c : Cont) (way i : Int) (w : World) (h : NetIs 75 w base nb F H c) :
    Calls Try.prog 43 #[.pointer (some ⟨nb, 0, none⟩), .int .i64 way, .int .i64 i] w fun e w' => e = .returned (.int .i64 (wrongN (hasC c way i))) ∧ w = w' :=
  nwrong_core _ way i _ w (nhas_any nb base F H c way i w h)
end
end Go.Proofs.Ytlagccfllnhgbaa
