/- What a net's readers do; clones; are bytes alike. -/
import Derived.Test.YtlagccfllnhgbaaNet
import Derived.WalkSpells
import Derived.WalkLawsBesides
import Derived.Deep.OwnRows
import Derived.BigQuiet
import Derived.Deep.QuietTactic
namespace Go.Proofs.Ytlagccfllnhgbaa
open Go.RowKit
set_option linter.unusedVariables false

def lenC (c : Cont) (way : Int) : Nat := if thereC c way then (c.row way.toNat).length else 0
def sumUp (k : Nat) (f : Nat → Nat) : Nat := match k with | 0 => 0 | k + 1 => sumUp k f + f k
def allC (c : Cont) : Nat := sumUp c.length fun j => (c.row j).length
theorem sumUp_le (k m : Nat) (f : Nat → Nat) (h : ∀ i, i < k → f i ≤ m) : sumUp k f ≤ k * m := by
  induction k with
  | zero => simp [sumUp]
  | succ k ih => simp only [sumUp]; rw [Nat.succ_mul]; have := h k (by omega); have := ih fun i hi => h i (by omega); omega
theorem sliceInfo (e : TypeId) (he : (Try.prog.info? e).map (fun i => (i.zero, i.size, i.bytes)) = some (some (.slice none 0 0), 1, 24)) : True := trivial
theorem framesInfo : (Try.prog.info? 22).map (fun i => (i.zero, i.size, i.bytes)) = some (some (.slice none 0 0), 1, 24) := by kernel_rfl
theorem frameInfo : (Try.prog.info? 26).map (fun i => (i.zero, i.size, i.bytes)) = some (some (.slice none 0 0), 1, 24) := by kernel_rfl
theorem byteInfo : (Try.prog.info? 5).map (fun i => (i.zero, i.size, i.bytes)) = some (some (.int .u8 0), 1, 1) := by kernel_rfl

section
set_option maxHeartbeats 1000000
theorem nlen_no (p : Option Addr) (way : Int) (w : World) (ht : Calls Try.prog 41 #[.pointer p, .int .i64 way] w fun e w' => e = .returned (.bool false) ∧ w = w') :
    Calls Try.prog 19 #[.pointer p, .int .i64 way] w fun e w' => e = .returned (.int .i64 0) ∧ w = w' := by
  have H := Lib.hid ht; clear ht
  go_enter Try.func19, Try.ntmps19
  go_wp2_with (go_at_call 41; refine H.out.mono ?_; rintro e w' ⟨rfl, rfl⟩)
  go_ret
  exact ⟨rfl, rfl⟩
theorem nlen_core (nb wb n cp ln cq : Nat) (A : Option Addr) (way : Int) (w : World) (hw0 : 0 ≤ way) (hw1 : way < n) (hn : n ≤ 32) (hl : ln ≤ 400) (h0 : w.cell? ⟨nb, 0, none⟩ = some (.slice (some ⟨wb, 0, none⟩) n cp))
    (h1 : w.cell? ⟨wb, way.toNat, none⟩ = some (.slice A ln cq))
    (ht : Calls Try.prog 41 #[.pointer (some ⟨nb, 0, none⟩), .int .i64 way] w fun e w' => e = .returned (.bool true) ∧ w = w') :
    Calls Try.prog 19 #[.pointer (some ⟨nb, 0, none⟩), .int .i64 way] w fun e w' => e = .returned (.int .i64 ln) ∧ w = w' := by
  have H := Lib.hid ht; clear ht
  go_enter Try.func19, Try.ntmps19
  go_wp2_with (go_at_call 41; refine H.out.mono ?_; rintro e w' ⟨rfl, rfl⟩)
  go_ret
  exact ⟨rfl, rfl⟩
theorem nlen_any (nb base : Nat) (F H : Nat → Prop) (c : Cont) (way : Int) (w : World) (h : NetIs 75 w base nb F H c) :
    Calls Try.prog 19 #[.pointer (some ⟨nb, 0, none⟩), .int .i64 way] w fun e w' => e = .returned (.int .i64 (lenC c way)) ∧ w = w' := by
  have ht := nthere_any nb base F H c way w h
  cases hb : thereC c way
  · rw [hb] at ht
    rw [show lenC c way = 0 from by simp [lenC, hb]]
    exact nlen_no _ way w ht
  · rw [hb] at ht
    rw [show lenC c way = (c.row way.toNat).length from by simp [lenC, hb]]
    obtain ⟨hv, vs, rows, h⟩ := h
    simp only [thereC, Bool.and_eq_true, decide_eq_true_eq] at hb
    have hnc := h.nc
    obtain ⟨wb, cp, A, cq, _, h0, _, h1, _, _, _⟩ := h.way (j := way.toNat) (by omega)
    exact nlen_core nb wb vs.length cp (c.row way.toNat).length cq A way w hb.1 (by omega) (by rw [← hnc]; exact h.c32) (h.c400 _ (by omega)) h0 h1 ht
theorem nall_nil (w : World) : Calls Try.prog 17 #[.pointer none] w fun e w' => e = .returned (.int .i64 0) ∧ w = w' := by
  go_enter Try.func17, Try.ntmps17
  go_wp2_with fail
  go_ret
  exact ⟨rfl, rfl⟩
theorem nall_core (nb n cp : Nat) (A : Option Addr) (f : Nat → Nat) (w : World) (hn : n ≤ 32) (hf : ∀ j, j < n → f j ≤ 400) (h0 : w.cell? ⟨nb, 0, none⟩ = some (.slice A n cp))
    (h1 : ∀ j, j < n → ∃ wb A' cq, A = some ⟨wb, 0, none⟩ ∧ w.cell? ⟨wb, j, none⟩ = some (.slice A' (f j) cq)) :
    Calls Try.prog 17 #[.pointer (some ⟨nb, 0, none⟩)] w fun e w' => e = .returned (.int .i64 (sumUp n f)) ∧ w = w' := by
  have H1 := Lib.hid h1; clear h1
  have Hf := Lib.hid hf
  go_enter Try.func17, Try.ntmps17
  go_wp2_with fail
  go_loopw [3, 13] (fun s i wr => ∃ k : Nat, k ≤ n ∧ i = .int .i64 k ∧ s = .int .i64 (sumUp k f) ∧ w = wr) (fun _ i _ => n - (intOf i).toNat)
  case atStart => exact ⟨0, by omega, rfl, rfl, rfl⟩
  case round =>
    obtain ⟨k, hk, rfl, rfl, rfl⟩ := hrel
    have hs := sumUp_le k 400 f fun i hi => Hf.out i (by omega)
    by_cases hlt : k < n
    · obtain ⟨wb, A', cq, rfl, hc⟩ := H1.out k hlt
      have hfk := Hf.out k hlt
      have Hs := Lib.hid (show sumUp (k + 1) f = sumUp k f + f k from rfl)
      clear hf
      generalize sumUp k f = sm at *
      generalize f k = fk at *
      go_wp2_with fail
      go_roundw
      case rel => exact ⟨k + 1, by omega, by go_num, by rw [Hs.out]; go_num, by trivial⟩
      case measure => simp [intOf]; omega
    · obtain rfl : k = n := by omega
      clear hf
      go_wp2_with fail
      go_ret
      exact ⟨rfl, rfl⟩
theorem nall_any (nb base : Nat) (F H : Nat → Prop) (c : Cont) (w : World) (h : NetIs 75 w base nb F H c) :
    Calls Try.prog 17 #[.pointer (some ⟨nb, 0, none⟩)] w fun e w' => e = .returned (.int .i64 (allC c)) ∧ w = w' := by
  obtain ⟨hv, vs, rows, h⟩ := h
  have hnc := h.nc
  obtain ⟨A, cp, e, hc, _, _⟩ := h.head
  have := nall_core nb vs.length cp A (fun j => (c.row j).length) w (by rw [← hnc]; exact h.c32) (fun j hj => h.c400 j hj) hc (fun j hj => by
    obtain ⟨wb, cp', A', cq, e2, _, _, h1, _⟩ := h.way hj
    rw [e] at e2
    injection e2 with e2
    exact ⟨wb, A', cq, e2, h1⟩)
  rw [← hnc] at this
  exact this

/- a clone -/
theorem clone_none (n c : Nat) (w : World) : Calls Try.prog 42 #[.slice none n c] w fun e w' => e = .returned (.slice none 0 0) ∧ w = w' := by
  have he := fun w => Lib.run_eql_slice_nil (P := Try.prog) (w := w)
  go_enter Try.func42, Try.ntmps42
  go_wp2_with fail
  go_ret
  exact ⟨rfl, rfl⟩
theorem Row.byt {w : World} {v : Value} {l : List Int} (h : Row 5 w v (l.map (Value.int .u8))) (hl : l.length ≤ 140737488355328) : Byt w v l := by
  obtain ⟨A, c, hv, hs⟩ := h.src
  obtain ⟨A', c', hv', h1, h2⟩ := h.shape
  rw [List.length_map] at hv hv' h1
  rw [hv] at hv'
  injection hv' with e1 e2 e3
  subst e1 e3
  exact ⟨A, c, hv, h1, hl, hs⟩
def Cl (l : List Int) (w : World) (e : Ending) (w' : World) : Prop :=
  ∃ v, e = .returned v ∧ Byt w' v l ∧ Only Non w w' ∧ ∀ k, ownB v k → w.heap.size ≤ k ∧ ∃ cs, Box w' k 5 cs
theorem clone_some (a : Addr) (c : Nat) (l : List Int) (w : World) (h : Byt w (.slice (some a) l.length c) l) :
    Calls Try.prog 42 #[.slice (some a) l.length c] w (Cl l w) := by
  obtain ⟨A, c', e, h1, h2, h3⟩ := h
  injection e with e1 e2 e3
  subst e1
  have hal : Only Non w (w.alloc (.cells #[] 5)) := (Only.refl _ _).alloc _
  have hrow : Row 5 (w.alloc (.cells #[] 5)) (.slice (some ⟨w.heap.size, 0, none⟩) 0 0) [] := .inr ⟨_, 0, #[], rfl, Box.fresh _ _ _, Nat.le_refl _, Nat.le_refl _, Nat.zero_le _, rfl⟩
  have hsrc : Src (w.alloc (.cells #[] 5)) (some a) (l.map (Value.int .u8)) := h3.only hal fun _ _ _ _ => id
  have he := fun w => Lib.run_eql_slice_nil (P := Try.prog) (w := w)
  have hone : ∀ u ∈ l.map (Value.int .u8), u.oneCell' = true := by
    intro u hu
    obtain ⟨z, _, rfl⟩ := List.mem_map.1 hu
    rfl
  have hb1 : ([] : List Value).length + (l.map (Value.int .u8)).length ≤ maxLen := by simp only [List.length_nil, List.length_map, maxLen]; omega
  have hb2 : (([] : List Value).length + (l.map (Value.int .u8)).length) * 1 ≤ 140737488355328 := by simp only [List.length_nil, List.length_map]; omega
  have Hb1 := Lib.hid hb1; clear hb1
  have Hb2 := Lib.hid hb2; clear hb2
  have Hone := Lib.hid hone; clear hone
  have hln : l.length = (l.map (Value.int .u8)).length := by simp
  have Hln := Lib.hid hln; clear hln
  have Hbyt := Lib.hid fun w v => @Row.byt w v l
  generalize l.map (Value.int .u8) = vs at *
  clear e2 e3 h3
  go_enter Try.func42, Try.ntmps42
  go_wp2_with (at_builtin; refine wpList_append_row _ rfl (.tmp 5) (.tmp 6) 26 5 rfl byteInfo rfl Try.underlying26 (.slice (some ⟨w.heap.size, 0, none⟩) 0 0) [] rfl hrow (some a) l.length c vs rfl Hln.out hsrc Hone.out Hb1.out Hb2.out ?_; intro v' w1 hrow' hgrow hown _)
  go_ret
  rw [List.nil_append] at hrow'
  refine ⟨v', rfl, Hbyt.out w1 v' hrow' h2, hal.trans' hgrow (fun k hk => .inr (by rw [ownB_slice] at hk; omega)), fun k hk => ⟨?_, hrow'.box hk⟩⟩
  rcases hown k hk with h | h
  · rw [ownB_slice] at h; omega
  · simp at h; omega
theorem clone_any (v : Value) (l : List Int) (w : World) (h : Byt w v l) : Calls Try.prog 42 #[v] w (Cl l w) := by
  have h' := h
  obtain ⟨A, c, rfl, h1, h2, h3⟩ := h
  cases A with
  | some a => exact clone_some a c l w h'
  | none =>
    have hl : l = [] := by
      cases l with
      | nil => rfl
      | cons x l => obtain ⟨g, o, e, _⟩ := h3 0 _ rfl; cases e
    subst hl
    refine (clone_none _ _ w).mono ?_
    rintro e w' ⟨rfl, rfl⟩
    exact ⟨_, rfl, ⟨none, 0, rfl, Nat.le_refl _, h2, Src.nil_ _ _⟩, Only.refl _ _, fun k hk => (ownB_none hk).elim⟩

/- alike? -/
def SmRel (la lb : List Int) (w : World) (i : Value) (wr : World) : Prop := ∃ k : Nat, k ≤ la.length ∧ i = .int .i64 k ∧ (∀ j, j < k → la.getD j 0 = lb.getD j 0) ∧ ∃ m, w.drewN m = wr
theorem alike (la lb : List Int) (hl : la.length = lb.length) (h : ∀ j, j < la.length → la.getD j 0 = lb.getD j 0) : la = lb := by
  apply List.ext_getElem hl
  intro i h1 h2
  have := h i h1
  simpa [List.getD, h1, h2] using this
theorem Byt.cellAt {w : World} {A : Option Addr} {n c : Nat} {l : List Int} (h : Byt w (.slice A n c) l) {i : Nat} (hi : i < l.length) :
    ∃ g o, A = some ⟨g, o, none⟩ ∧ w.cell? ⟨g, o + i, none⟩ = some (.int .u8 (l.getD i 0)) := by
  obtain ⟨A', c', e, _, _, h3⟩ := h
  injection e with e1 e2 e3
  subst e1
  exact h3 i _ (by simp [hi])
theorem Byt.len {w : World} {A : Option Addr} {n c : Nat} {l : List Int} (h : Byt w (.slice A n c) l) : n = l.length ∧ l.length ≤ 140737488355328 := by
  obtain ⟨A', c', e, _, h2, h3⟩ := h
  injection e with e1 e2
  exact ⟨e2, h2⟩
theorem same_core (A B : Option Addr) (ca cb : Nat) (la lb : List Int) (w : World) (ha : Byt w (.slice A la.length ca) la) (hb : Byt w (.slice B lb.length cb) lb) :
    Calls Try.prog 16 #[.slice A la.length ca, .slice B lb.length cb] w fun e w' => e = .returned (.bool (decide (la = lb))) ∧ ∃ m, w.drewN m = w' := by
  have h1 := ha.len.2
  have h2 := hb.len.2
  by_cases hl : la.length = lb.length
  · have hln : ((la.length : Int) != (lb.length : Int)) = false := by simp [hl]
    have Hl := Lib.hid hl
    have hll : la.length ≤ lb.length := by omega
    clear hl
    go_enter Try.func16, Try.ntmps16
    go_wp2_with fail
    go_loopw [5] (fun i wr => SmRel la lb w i wr) (fun i _ => la.length - (intOf i).toNat)
    case atStart => exact ⟨0, by omega, rfl, fun j hj => absurd hj (by omega), 0, rfl⟩
    case round =>
      obtain ⟨k, hk, rfl, heq, m, rfl⟩ := hrel
      have Heq := Lib.hid heq; clear heq
      by_cases hlt : k < la.length
      · obtain ⟨g, o, rfl, hc⟩ := ha.cellAt hlt
        obtain ⟨g', o', rfl, hc'⟩ := hb.cellAt (show k < lb.length by omega)
        generalize hx : la.getD k 0 = x at *
        generalize hy : lb.getD k 0 = y at *
        have Hx := Lib.hid hx
        have Hy := Lib.hid hy
        clear hx hy
        by_cases hxy : x = y
        · subst hxy
          have hltb : (k : Int) < lb.length := by omega
          have hlta : (k : Int) < la.length := by omega
          go_wp2_with fail
          go_quiet (fail)
          go_wp2
          go_roundw
          case rel => exact ⟨k + 1, by omega, by go_num, fun j hj => by
            rcases Nat.lt_or_ge j k with h | h
            · exact Heq.out j h
            · obtain rfl : j = k := by omega
              rw [Hx.out, Hy.out], _, rfl⟩
          case measure => simp [intOf]; omega
        · have hne : (x != y) = true := by simp [hxy]
          have hltb : (k : Int) < lb.length := by omega
          have hlta : (k : Int) < la.length := by omega
          have hf : decide (la = lb) = false := decide_eq_false fun e => hxy (by rw [← Hx.out, ← Hy.out, e])
          have Hf := Lib.hid hf
          clear hf hxy
          go_wp2_with fail
          go_quiet (fail)
          go_wp2
          go_ret
          exact ⟨by rw [Hf.out]; rfl, _, (World.drewN_drewN _ _ _).symm⟩
      · have hf : decide (la = lb) = true := decide_eq_true (alike la lb Hl.out fun j hj => Heq.out j (by omega))
        have Hf := Lib.hid hf
        clear hf
        go_wp2_with fail
        go_ret
        exact ⟨by rw [Hf.out]; rfl, _, rfl⟩
  · have hln : ((la.length : Int) != (lb.length : Int)) = true := by simp; omega
    have hf : decide (la = lb) = false := decide_eq_false fun e => hl (by rw [e])
    have Hf := Lib.hid hf
    clear hl hf
    go_enter Try.func16, Try.ntmps16
    go_wp2_with fail
    go_ret
    exact ⟨by rw [Hf.out]; rfl, 0, rfl⟩
theorem same_any (va vb : Value) (la lb : List Int) (w : World) (ha : Byt w va la) (hb : Byt w vb lb) :
    Calls Try.prog 16 #[va, vb] w fun e w' => e = .returned (.bool (decide (la = lb))) ∧ ∃ m, w.drewN m = w' := by
  have ha' := ha
  have hb' := hb
  obtain ⟨A, ca, rfl, _⟩ := ha
  obtain ⟨B, cb, rfl, _⟩ := hb
  exact same_core A B ca cb la lb w ha' hb'
end
end Go.Proofs.Ytlagccfllnhgbaa
