/- Slices of bytes: what they read as; slices.Clone, gradineref01.Same. -/
import Derived.Test.YtcphifphidcbaaaGreatProg
import Derived.Test.YtcphifphidcbaaaGreatGrid
import Derived.Lib.SliceRun
import Derived.WalkSpells
import Derived.WalkLawsBesides
import Derived.Deep.OwnRows
import Derived.BigQuiet
import Derived.Deep.QuietTactic
namespace Go.Proofs.YtcphifphidcbaaaGreat
open Go.RowKit
set_option linter.unusedVariables false
set_option linter.unusedSimpArgs false
/-- The slice v reads as the bytes l. -/
def Byt (w : World) (v : Value) (l : List Int) : Prop := ∃ A c, v = .slice A l.length c ∧ l.length ≤ c ∧ l.length ≤ 140737488355328 ∧ Src w A (l.map (Value.int .u8))
theorem Byt.only {S : Nat → Prop} {w w' : World} {v : Value} {l : List Int} (h : Byt w v l) (ho : Only S w w') (hn : ∀ k, ownB v k → ¬ S k) : Byt w' v l := by
  obtain ⟨A, c, rfl, h1, h2, h3⟩ := h
  exact ⟨A, c, rfl, h1, h2, h3.only ho fun g o e _ => hn g (by subst e; exact ownB_slice.2 rfl)⟩

theorem Byt.keep {S : Nat → Prop} {w w' : World} {v : Value} {l : List Int} (h : Byt w v l) (ho : Only S w w') (hn : 0 < l.length → ∀ k, ownB v k → k < w.heap.size → ¬ S k) : Byt w' v l := by
  obtain ⟨A, c, rfl, h1, h2, h3⟩ := h
  by_cases hz : 0 < l.length
  · exact ⟨A, c, rfl, h1, h2, h3.only ho fun g o e hg => hn hz g (by subst e; exact ownB_slice.2 rfl) hg⟩
  · have : l = [] := List.eq_nil_of_length_eq_zero (by omega)
    subst this
    exact ⟨A, c, rfl, h1, h2, Src.nil_ _ _⟩

theorem byteInfo : (Tryz.prog.info? 5).map (fun i => (i.zero, i.size, i.bytes)) = some (some (.int .u8 0), 1, 1) := by kernel_rfl
section
set_option maxHeartbeats 2000000
/- a clone -/
theorem clone_none (n c : Nat) (w : World) : Calls Tryz.prog 40 #[.slice none n c] w fun e w' => e = .returned (.slice none 0 0) ∧ w = w' := by
  have he := fun w => Lib.run_eql_slice_nil (P := Tryz.prog) (w := w)
  go_enter Tryz.func40, Tryz.ntmps40
  go_wp2_with fail
  go_ret
  exact ⟨rfl, rfl⟩
theorem Row.byt {w : World} {v : Value} {l : List Int} (h : Row 5 w v (l.map (Value.int .u8))) (hl : l.length ≤ 140737488355328) : Byt w v l := by
  obtain ⟨A, c, hv, hs⟩ := h.src
  obtain ⟨A', c', hv', h1, h2⟩ := h.shape
  rw [List.length_map] at hv hv' h1
  rw [hv] at hv'
  injection hv' with e1 e2 e3
  subst e1 e3
  exact ⟨A, c, hv, h1, hl, hs⟩
abbrev bytes (l : List Int) : List Value := l.map (Value.int .u8)
theorem bytes_one (l : List Int) : ∀ u ∈ bytes l, u.oneCell' = true := fun u hu => by obtain ⟨x, _, rfl⟩ := List.mem_map.1 hu; rfl
/-- bytes of the call's own -/
def Fresh (l : List Int) (w : World) (e : Ending) (w' : World) : Prop :=
  ∃ v, e = .returned v ∧ Row 5 w' v (bytes l) ∧ Only Non w w' ∧ ∀ k, ownB v k → w.heap.size ≤ k
def Cl (l : List Int) (w : World) (e : Ending) (w' : World) : Prop := Fresh l w e w' 
theorem clone_some (a : Addr) (c : Nat) (l : List Int) (w : World) (h : Byt w (.slice (some a) l.length c) l) :
    Calls Tryz.prog 40 #[.slice (some a) l.length c] w (Cl l w) := by
  obtain ⟨A, c', e, h1, h2, h3⟩ := h
  injection e with e1 e2 e3
  subst e1
  have hal : Only Non w (w.alloc (.cells #[] 5)) := (Only.refl _ _).alloc _
  have hrow : Row 5 (w.alloc (.cells #[] 5)) (.slice (some ⟨w.heap.size, 0, none⟩) 0 0) [] := .inr ⟨_, 0, #[], rfl, Box.fresh _ _ _, Nat.le_refl _, Nat.le_refl _, Nat.zero_le _, rfl⟩
  have hsrc : Src (w.alloc (.cells #[] 5)) (some a) (l.map (Value.int .u8)) := h3.only hal fun _ _ _ _ => id
  have he := fun w => Lib.run_eql_slice_nil (P := Tryz.prog) (w := w)
  have hone : ∀ u ∈ l.map (Value.int .u8), u.oneCell' = true := by
    intro u hu
    obtain ⟨z, _, rfl⟩ := List.mem_map.1 hu
    rfl
  have hb1 : ([] : List Value).length + (l.map (Value.int .u8)).length ≤ maxLen := by simp only [List.length_nil, List.length_map, maxLen]; omega
  have hb2 : (([] : List Value).length + (l.map (Value.int .u8)).length) * 1 ≤ 140737488355328 := by simp only [List.length_nil, List.length_map]; omega
  have Hb1 := Lib.hid hb1; clear hb1
  have Hb2 := Lib.hid hb2; clear hb2
  have Hone := Lib.hid hone; clear hone
  have hln : l.length = (l.map (Value.int .u8)).length := by simp
  have Hln := Lib.hid hln; clear hln
  generalize hvs : l.map (Value.int .u8) = vs at *
  have Hvs := Lib.hid hvs
  clear hvs
  clear e2 e3 h3
  go_enter Tryz.func40, Tryz.ntmps40
  go_wp2_with (at_builtin; refine wpList_append_row _ rfl (.tmp 5) (.tmp 6) 23 5 rfl byteInfo rfl Tryz.underlying23 (.slice (some ⟨w.heap.size, 0, none⟩) 0 0) [] rfl hrow (some a) l.length c vs rfl Hln.out hsrc Hone.out Hb1.out Hb2.out ?_; intro v' w1 hrow' hgrow hown _)
  go_ret
  rw [List.nil_append] at hrow'
  refine ⟨v', rfl, by rw [bytes, Hvs.out]; exact hrow', hal.trans' hgrow (fun k hk => .inr (by rw [ownB_slice] at hk; omega)), fun k hk => ?_⟩
  rcases hown k hk with h | h
  · rw [ownB_slice] at h; omega
  · simp at h; omega
theorem clone_any (v : Value) (l : List Int) (w : World) (h : Byt w v l) : Calls Tryz.prog 40 #[v] w (Cl l w) := by
  have h' := h
  obtain ⟨A, c, rfl, h1, h2, h3⟩ := h
  cases A with
  | some a => exact clone_some a c l w h'
  | none =>
    have hl : l = [] := by
      cases l with
      | nil => rfl
      | cons x l => obtain ⟨g, o, e, _⟩ := h3 0 _ rfl; cases e
    subst hl
    refine (clone_none _ _ w).mono ?_
    rintro e w' ⟨rfl, rfl⟩
    exact ⟨_, rfl, Row.nil_ _ _, Only.refl _ _, fun k hk => (ownB_none hk).elim⟩

/- alike? -/
def SmRel (la lb : List Int) (w : World) (i : Value) (wr : World) : Prop := ∃ k : Nat, k ≤ la.length ∧ i = .int .i64 k ∧ (∀ j, j < k → la.getD j 0 = lb.getD j 0) ∧ ∃ m, w.drewN m = wr
theorem alike (la lb : List Int) (hl : la.length = lb.length) (h : ∀ j, j < la.length → la.getD j 0 = lb.getD j 0) : la = lb := by
  apply List.ext_getElem hl
  intro i h1 h2
  have := h i h1
  simpa [List.getD, h1, h2] using this
theorem Byt.cellAt {w : World} {A : Option Addr} {n c : Nat} {l : List Int} (h : Byt w (.slice A n c) l) {i : Nat} (hi : i < l.length) :
    ∃ g o, A = some ⟨g, o, none⟩ ∧ w.cell? ⟨g, o + i, none⟩ = some (.int .u8 (l.getD i 0)) := by
  obtain ⟨A', c', e, _, _, h3⟩ := h
  injection e with e1 e2 e3
  subst e1
  exact h3 i _ (by simp [hi])
theorem Byt.len {w : World} {A : Option Addr} {n c : Nat} {l : List Int} (h : Byt w (.slice A n c) l) : n = l.length ∧ l.length ≤ 140737488355328 := by
  obtain ⟨A', c', e, _, h2, h3⟩ := h
  injection e with e1 e2
  exact ⟨e2, h2⟩
theorem same_core (A B : Option Addr) (ca cb : Nat) (la lb : List Int) (w : World) (ha : Byt w (.slice A la.length ca) la) (hb : Byt w (.slice B lb.length cb) lb) :
    Calls Tryz.prog 87 #[.slice A la.length ca, .slice B lb.length cb] w fun e w' => e = .returned (.bool (decide (la = lb))) ∧ ∃ m, w.drewN m = w' := by
  have h1 := ha.len.2
  have h2 := hb.len.2
  by_cases hl : la.length = lb.length
  · have hln : ((la.length : Int) != (lb.length : Int)) = false := by simp [hl]
    have Hl := Lib.hid hl
    have hll : la.length ≤ lb.length := by omega
    clear hl
    go_enter Tryz.func87, Tryz.ntmps87
    go_wp2_with fail
    go_loopw [5] (fun i wr => SmRel la lb w i wr) (fun i _ => la.length - (intOf i).toNat)
    case atStart => exact ⟨0, by omega, rfl, fun j hj => absurd hj (by omega), 0, rfl⟩
    case round =>
      obtain ⟨k, hk, rfl, heq, m, rfl⟩ := hrel
      have Heq := Lib.hid heq; clear heq
      by_cases hlt : k < la.length
      · obtain ⟨g, o, rfl, hc⟩ := ha.cellAt hlt
        obtain ⟨g', o', rfl, hc'⟩ := hb.cellAt (show k < lb.length by omega)
        generalize hx : la.getD k 0 = x at *
        generalize hy : lb.getD k 0 = y at *
        have Hx := Lib.hid hx
        have Hy := Lib.hid hy
        clear hx hy
        by_cases hxy : x = y
        · subst hxy
          have hltb : (k : Int) < lb.length := by omega
          have hlta : (k : Int) < la.length := by omega
          go_wp2_with fail
          go_quiet (fail)
          go_wp2
          go_roundw
          case rel => exact ⟨k + 1, by omega, by go_num, fun j hj => by
            rcases Nat.lt_or_ge j k with h | h
            · exact Heq.out j h
            · obtain rfl : j = k := by omega
              rw [Hx.out, Hy.out], _, rfl⟩
          case measure => simp [intOf]; omega
        · have hne : (x != y) = true := by simp [hxy]
          have hltb : (k : Int) < lb.length := by omega
          have hlta : (k : Int) < la.length := by omega
          have hf : decide (la = lb) = false := decide_eq_false fun e => hxy (by rw [← Hx.out, ← Hy.out, e])
          have Hf := Lib.hid hf
          clear hf hxy
          go_wp2_with fail
          go_quiet (fail)
          go_wp2
          go_ret
          exact ⟨by rw [Hf.out]; rfl, _, (World.drewN_drewN _ _ _).symm⟩
      · have hf : decide (la = lb) = true := decide_eq_true (alike la lb Hl.out fun j hj => Heq.out j (by omega))
        have Hf := Lib.hid hf
        clear hf
        go_wp2_with fail
        go_ret
        exact ⟨by rw [Hf.out]; rfl, _, rfl⟩
  · have hln : ((la.length : Int) != (lb.length : Int)) = true := by simp; omega
    have hf : decide (la = lb) = false := decide_eq_false fun e => hl (by rw [e])
    have Hf := Lib.hid hf
    clear hl hf
    go_enter Tryz.func87, Tryz.ntmps87
    go_wp2_with fail
    go_ret
    exact ⟨by rw [Hf.out]; rfl, 0, rfl⟩
theorem same_any (va vb : Value) (la lb : List Int) (w : World) (ha : Byt w va la) (hb : Byt w vb lb) :
    Calls Tryz.prog 87 #[va, vb] w fun e w' => e = .returned (.bool (decide (la = lb))) ∧ ∃ m, w.drewN m = w' := by
  have ha' := ha
  have hb' := hb
  obtain ⟨A, ca, rfl, _⟩ := ha
  obtain ⟨B, cb, rfl, _⟩ := hb
  exact same_core A B ca cb la lb w ha' hb'
end
end Go.Proofs.YtcphifphidcbaaaGreat
