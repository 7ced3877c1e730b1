/- Several texts, one behind the other: Byt CfgA CfgS CfgB Hcl Cfc. -/
import Derived.Test.YtodephhlhdbeoaaGreatProg
import Derived.Test.YtodephhlhdbeoaaGreatM4
import Derived.Lib.SliceRun
import Derived.WalkSpells
import Derived.WalkLawsBesides
import Derived.Deep.OwnRows
import Derived.BigQuiet
import Derived.Deep.QuietTactic
namespace Go.Proofs.YtodephhlhdbeoaaGreat
open Go.RowKit
set_option linter.unusedVariables false
set_option linter.unusedSimpArgs false
def Byt (w : World) (v : Value) (l : List Int) : Prop := ∃ A c, v = .slice A l.length c ∧ l.length ≤ c ∧ l.length ≤ 140737488355328 ∧ Src w A (l.map (Value.int .u8))
theorem Byt.only {S : Nat → Prop} {w w' : World} {v : Value} {l : List Int} (h : Byt w v l) (ho : Only S w w') (hn : ∀ k, ownB v k → ¬ S k) : Byt w' v l := by
  obtain ⟨A, c, rfl, h1, h2, h3⟩ := h
  exact ⟨A, c, rfl, h1, h2, h3.only ho fun g o e _ => hn g (by subst e; exact ownB_slice.2 rfl)⟩

theorem Byt.keep {S : Nat → Prop} {w w' : World} {v : Value} {l : List Int} (h : Byt w v l) (ho : Only S w w') (hn : 0 < l.length → ∀ k, ownB v k → k < w.heap.size → ¬ S k) : Byt w' v l := by
  obtain ⟨A, c, rfl, h1, h2, h3⟩ := h
  by_cases hz : 0 < l.length
  · exact ⟨A, c, rfl, h1, h2, h3.only ho fun g o e hg => hn hz g (by subst e; exact ownB_slice.2 rfl) hg⟩
  · have : l = [] := List.eq_nil_of_length_eq_zero (by omega)
    subst this
    exact ⟨A, c, rfl, h1, h2, Src.nil_ _ _⟩

theorem byteInfo : (Tryz.prog.info? 5).map (fun i => (i.zero, i.size, i.bytes)) = some (some (.int .u8 0), 1, 1) := by kernel_rfl
section
set_option maxHeartbeats 2000000
/- a clone -/
theorem clone_none (n c : Nat) (w : World) : Calls Tryz.prog 108 #[.slice none n c] w fun e w' => e = .returned (.slice none 0 0) ∧ w = w' := by
  have he := fun w => Lib.run_eql_slice_nil (P := Tryz.prog) (w := w)
  go_enter Tryz.func108, Tryz.ntmps108
  go_wp2_with fail
  go_ret
  exact ⟨rfl, rfl⟩
theorem Row.byt {w : World} {v : Value} {l : List Int} (h : Row 5 w v (l.map (Value.int .u8))) (hl : l.length ≤ 140737488355328) : Byt w v l := by
  obtain ⟨A, c, hv, hs⟩ := h.src
  obtain ⟨A', c', hv', h1, h2⟩ := h.shape
  rw [List.length_map] at hv hv' h1
  rw [hv] at hv'
  injection hv' with e1 e2 e3
  subst e1 e3
  exact ⟨A, c, hv, h1, hl, hs⟩
abbrev bytes (l : List Int) : List Value := l.map (Value.int .u8)
theorem bytes_one (l : List Int) : ∀ u ∈ bytes l, u.oneCell' = true := fun u hu => by obtain ⟨x, _, rfl⟩ := List.mem_map.1 hu; rfl
def Fresh (l : List Int) (w : World) (e : Ending) (w' : World) : Prop :=
  ∃ v, e = .returned v ∧ Row 5 w' v (bytes l) ∧ Only Non w w' ∧ ∀ k, ownB v k → w.heap.size ≤ k
def Cl (l : List Int) (w : World) (e : Ending) (w' : World) : Prop := Fresh l w e w' 
theorem clone_some (a : Addr) (c : Nat) (l : List Int) (w : World) (h : Byt w (.slice (some a) l.length c) l) :
    Calls Tryz.prog 108 #[.slice (some a) l.length c] w (Cl l w) := by
  obtain ⟨A, c', e, h1, h2, h3⟩ := h
  injection e with e1 e2 e3
  subst e1
  have hal : Only Non w (w.alloc (.cells #[] 5)) := (Only.refl _ _).alloc _
  have hrow : Row 5 (w.alloc (.cells #[] 5)) (.slice (some ⟨w.heap.size, 0, none⟩) 0 0) [] := .inr ⟨_, 0, #[], rfl, Box.fresh _ _ _, Nat.le_refl _, Nat.le_refl _, Nat.zero_le _, rfl⟩
  have hsrc : Src (w.alloc (.cells #[] 5)) (some a) (l.map (Value.int .u8)) := h3.only hal fun _ _ _ _ => id
  have he := fun w => Lib.run_eql_slice_nil (P := Tryz.prog) (w := w)
  have hone : ∀ u ∈ l.map (Value.int .u8), u.oneCell' = true := by
    intro u hu
    obtain ⟨z, _, rfl⟩ := List.mem_map.1 hu
    rfl
  have hb1 : ([] : List Value).length + (l.map (Value.int .u8)).length ≤ maxLen := by simp only [List.length_nil, List.length_map, maxLen]; omega
  have hb2 : (([] : List Value).length + (l.map (Value.int .u8)).length) * 1 ≤ 140737488355328 := by simp only [List.length_nil, List.length_map]; omega
  have Hb1 := Lib.hid hb1; clear hb1
  have Hb2 := Lib.hid hb2; clear hb2
  have Hone := Lib.hid hone; clear hone
  have hln : l.length = (l.map (Value.int .u8)).length := by simp
  have Hln := Lib.hid hln; clear hln
  generalize hvs : l.map (Value.int .u8) = vs at *
  have Hvs := Lib.hid hvs
  clear hvs
  clear e2 e3 h3
  go_enter Tryz.func108, Tryz.ntmps108
  go_wp2_with (at_builtin; refine wpList_append_row _ rfl (.tmp 5) (.tmp 6) 36 5 rfl byteInfo rfl Tryz.underlying36 (.slice (some ⟨w.heap.size, 0, none⟩) 0 0) [] rfl hrow (some a) l.length c vs rfl Hln.out hsrc Hone.out Hb1.out Hb2.out ?_; intro v' w1 hrow' hgrow hown _)
  go_ret
  rw [List.nil_append] at hrow'
  refine ⟨v', rfl, by rw [bytes, Hvs.out]; exact hrow', hal.trans' hgrow (fun k hk => .inr (by rw [ownB_slice] at hk; omega)), fun k hk => ?_⟩
  rcases hown k hk with h | h
  · rw [ownB_slice] at h; omega
  · simp at h; omega
theorem clone_any (v : Value) (l : List Int) (w : World) (h : Byt w v l) : Calls Tryz.prog 108 #[v] w (Cl l w) := by
  have h' := h
  obtain ⟨A, c, rfl, h1, h2, h3⟩ := h
  cases A with
  | some a => exact clone_some a c l w h'
  | none =>
    have hl : l = [] := by
      cases l with
      | nil => rfl
      | cons x l => obtain ⟨g, o, e, _⟩ := h3 0 _ rfl; cases e
    subst hl
    refine (clone_none _ _ w).mono ?_
    rintro e w' ⟨rfl, rfl⟩
    exact ⟨_, rfl, Row.nil_ _ _, Only.refl _ _, fun k hk => (ownB_none hk).elim⟩

/- alike? -/
def SmRel (la lb : List Int) (w : World) (i : Value) (wr : World) : Prop := ∃ k : Nat, k ≤ la.length ∧ i = .int .i64 k ∧ (∀ j, j < k → la.getD j 0 = lb.getD j 0) ∧ ∃ m, w.drewN m = wr
theorem alike (la lb : List Int) (hl : la.length = lb.length) (h : ∀ j, j < la.length → la.getD j 0 = lb.getD j 0) : la = lb := by
  apply List.ext_getElem hl
  intro i h1 h2
  have := h i h1
  simpa [List.getD, h1, h2] using this
theorem Byt.cellAt {w : World} {A : Option Addr} {n c : Nat} {l : List Int} (h : Byt w (.slice A n c) l) {i : Nat} (hi : i < l.length) :
    ∃ g o, A = some ⟨g, o, none⟩ ∧ w.cell? ⟨g, o + i, none⟩ = some (.int .u8 (l.getD i 0)) := by
  obtain ⟨A', c', e, _, _, h3⟩ := h
  injection e with e1 e2 e3
  subst e1
  exact h3 i _ (by simp [hi])
theorem Byt.len {w : World} {A : Option Addr} {n c : Nat} {l : List Int} (h : Byt w (.slice A n c) l) : n = l.length ∧ l.length ≤ 140737488355328 := by
  obtain ⟨A', c', e, _, h2, h3⟩ := h
  injection e with e1 e2
  exact ⟨e2, h2⟩
theorem same_core (A B : Option Addr) (ca cb : Nat) (la lb : List Int) (w : World) (ha : Byt w (.slice A la.length ca) la) (hb : Byt w (.slice B lb.length cb) lb) :
    Calls Tryz.prog 58 #[.slice A la.length ca, .slice B lb.length cb] w fun e w' => e = .returned (.bool (decide (la = lb))) ∧ ∃ m, w.drewN m = w' := by
  have h1 := ha.len.2
  have h2 := hb.len.2
  by_cases hl : la.length = lb.length
  · have hln : ((la.length : Int) != (lb.length : Int)) = false := by simp [hl]
    have Hl := Lib.hid hl
    have hll : la.length ≤ lb.length := by omega
    clear hl
    go_enter Tryz.func58, Tryz.ntmps58
    go_wp2_with fail
    go_loopw [5] (fun i wr => SmRel la lb w i wr) (fun i _ => la.length - (intOf i).toNat)
    case atStart => exact ⟨0, by omega, rfl, fun j hj => absurd hj (by omega), 0, rfl⟩
    case round =>
      obtain ⟨k, hk, rfl, heq, m, rfl⟩ := hrel
      have Heq := Lib.hid heq; clear heq
      by_cases hlt : k < la.length
      · obtain ⟨g, o, rfl, hc⟩ := ha.cellAt hlt
        obtain ⟨g', o', rfl, hc'⟩ := hb.cellAt (show k < lb.length by omega)
        generalize hx : la.getD k 0 = x at *
        generalize hy : lb.getD k 0 = y at *
        have Hx := Lib.hid hx
        have Hy := Lib.hid hy
        clear hx hy
        by_cases hxy : x = y
        · subst hxy
          have hltb : (k : Int) < lb.length := by omega
          have hlta : (k : Int) < la.length := by omega
          go_wp2_with fail
          go_quiet (fail)
          go_wp2
          go_roundw
          case rel => exact ⟨k + 1, by omega, by go_num, fun j hj => by
            rcases Nat.lt_or_ge j k with h | h
            · exact Heq.out j h
            · obtain rfl : j = k := by omega
              rw [Hx.out, Hy.out], _, rfl⟩
          case measure => simp [intOf]; omega
        · have hne : (x != y) = true := by simp [hxy]
          have hltb : (k : Int) < lb.length := by omega
          have hlta : (k : Int) < la.length := by omega
          have hf : decide (la = lb) = false := decide_eq_false fun e => hxy (by rw [← Hx.out, ← Hy.out, e])
          have Hf := Lib.hid hf
          clear hf hxy
          go_wp2_with fail
          go_quiet (fail)
          go_wp2
          go_ret
          exact ⟨by rw [Hf.out]; rfl, _, (World.drewN_drewN _ _ _).symm⟩
      · have hf : decide (la = lb) = true := decide_eq_true (alike la lb Hl.out fun j hj => Heq.out j (by omega))
        have Hf := Lib.hid hf
        clear hf
        go_wp2_with fail
        go_ret
        exact ⟨by rw [Hf.out]; rfl, _, rfl⟩
  · have hln : ((la.length : Int) != (lb.length : Int)) = true := by simp; omega
    have hf : decide (la = lb) = false := decide_eq_false fun e => hl (by rw [e])
    have Hf := Lib.hid hf
    clear hl hf
    go_enter Tryz.func58, Tryz.ntmps58
    go_wp2_with fail
    go_ret
    exact ⟨by rw [Hf.out]; rfl, 0, rfl⟩
theorem same_any (va vb : Value) (la lb : List Int) (w : World) (ha : Byt w va la) (hb : Byt w vb lb) :
    Calls Tryz.prog 58 #[va, vb] w fun e w' => e = .returned (.bool (decide (la = lb))) ∧ ∃ m, w.drewN m = w' := by
  have ha' := ha
  have hb' := hb
  obtain ⟨A, ca, rfl, _⟩ := ha
  obtain ⟨B, cb, rfl, _⟩ := hb
  exact same_core A B ca cb la lb w ha' hb'
end
structure HintA where
  fr : Int
  size : Int
  often : Int
  loop : Bool
  deriving DecidableEq
instance : Inhabited HintA := ⟨⟨0, 0, 0, false⟩⟩
def okH (blocks : Int) (h : HintA) : Prop := 0 ≤ h.fr ∧ 1 ≤ h.size ∧ h.fr ≤ blocks ∧ h.size ≤ blocks - h.fr ∧ h.fr + h.size ≤ 32 ∧ 0 ≤ h.often ∧ h.often ≤ 2147483647
def apartH (g h : HintA) : Prop := g.fr + g.size ≤ h.fr ∨ h.fr + h.size ≤ g.fr
def inH (h : HintA) (b : Nat) : Prop := h.fr ≤ b ∧ (b : Int) < h.fr + h.size
def hintsP (blocks : Int) (l : List HintA) : Prop :=
  (∀ i, i < l.length → okH blocks (l.getD i default)) ∧ (∀ i j, i < j → j < l.length → apartH (l.getD i default) (l.getD j default)) ∧ l.length ≤ 8
noncomputable def hintsB (blocks : Int) (l : List HintA) : Bool := @decide (hintsP blocks l) (Classical.propDecidable _)
theorem hintsB_no {blocks : Int} {l : List HintA} (h : ¬ hintsP blocks l) : hintsB blocks l = false := by unfold hintsB; exact @decide_eq_false _ (Classical.propDecidable _) h
theorem hintsB_yes {blocks : Int} {l : List HintA} (h : hintsP blocks l) : hintsB blocks l = true := by unfold hintsB; exact @decide_eq_true _ (Classical.propDecidable _) h
structure HintsAt (w : World) (A : Option Addr) (n c : Nat) (l : List HintA) : Prop where
  len : n = l.length
  cap : n ≤ c
  max : c ≤ maxLen
  at_ : ∀ i, i < l.length → ∃ g o, A = some ⟨g, o, none⟩ ∧ g < w.heap.size ∧ w.cell? ⟨g, o + i * 4, none⟩ = some (.int .i64 (l.getD i default).fr) ∧ w.cell? ⟨g, o + i * 4 + 1, none⟩ = some (.int .i64 (l.getD i default).size) ∧
    w.cell? ⟨g, o + i * 4 + 2, none⟩ = some (.int .i64 (l.getD i default).often) ∧ w.cell? ⟨g, o + i * 4 + 3, none⟩ = some (.bool (l.getD i default).loop)
theorem HintsAt.only {S : Nat → Prop} {w w' : World} {A : Option Addr} {n c : Nat} {l : List HintA} (h : HintsAt w A n c l) (ho : Only S w w') (hS : ∀ k, k < w.heap.size → ¬ S k) : HintsAt w' A n c l :=
  ⟨h.len, h.cap, h.max, fun i hi => by
    obtain ⟨g, o, e, hg, h0, h1, h2, h3⟩ := h.at_ i hi
    have hn := hS g hg
    exact ⟨g, o, e, Nat.lt_of_lt_of_le hg ho.size, ho.cell h0 hn, ho.cell h1 hn, ho.cell h2 hn, ho.cell h3 hn⟩⟩
theorem HintsAt.keep {w w' : World} {A : Option Addr} {n c : Nat} {l : List HintA} (h : HintsAt w A n c l) (ho : Only Non w w') : HintsAt w' A n c l := h.only ho fun _ _ => id
section
set_option maxHeartbeats 2000000
set_option maxRecDepth 100000
theorem within_any (n a b : Int) (w : World) : Calls Tryz.prog 154 #[.int .i64 n, .int .i64 a, .int .i64 b] w fun e w' => e = .returned (.bool (decide (a ≤ n) && decide (n ≤ b))) ∧ w = w' := by
  by_cases h1 : a ≤ n
  · by_cases h2 : n ≤ b
    · go_enter Tryz.func154, Tryz.ntmps154
      go_wp2_with fail
      go_ret
      exact ⟨by simp [h1, h2], rfl⟩
    · go_enter Tryz.func154, Tryz.ntmps154
      go_wp2_with fail
      go_ret
      exact ⟨by simp [h1, h2], rfl⟩
  · go_enter Tryz.func154, Tryz.ntmps154
    go_wp2_with fail
    go_ret
    exact ⟨by rw [decide_eq_false (show ¬ a ≤ n by omega)]; rfl, rfl⟩
structure MetAt (wr : World) (mb : Nat) (f : Nat → Prop) : Prop where
  ex : ∃ cs : Array Value, Box wr mb 212 cs ∧ cs.size = 32 ∧ ∀ b, b < 32 → ∃ x : Bool, cs[b]? = some (.bool x) ∧ (x = true ↔ f b)
def Hi1 (blocks : Int) (l : List HintA) (w : World) (i : Value) (wr : World) : Prop :=
  ∃ k : Nat, k ≤ l.length ∧ i = .int .i64 k ∧ MetAt wr w.heap.size (fun b => ∃ j, j < k ∧ inH (l.getD j default) b) ∧ (∀ j, j < k → okH blocks (l.getD j default)) ∧ (∀ i j, i < j → j < k → apartH (l.getD i default) (l.getD j default)) ∧ Only Non w wr
def Hi2 (l : List HintA) (k F Z hb mb : Nat) (w : World) (often : Int) (loop : Bool) (i : Value) (wr : World) : Prop :=
  ∃ q : Nat, q ≤ Z ∧ i = .int .i64 q ∧ MetAt wr mb (fun b => (∃ j, j < k ∧ inH (l.getD j default) b) ∨ (F ≤ b ∧ b < F + q)) ∧ (∀ b, F ≤ b → b < F + q → ¬ ∃ j, j < k ∧ inH (l.getD j default) b) ∧
    Box wr hb 141 #[.int .i64 F, .int .i64 Z, .int .i64 often, .bool loop] ∧ Only Non w wr
theorem met_zero (w : World) (f : Nat → Prop) (hf : ∀ b, ¬ f b) (cs : Array Value) (hcs : cs = Array.replicate 32 (.bool false)) : MetAt (w.alloc (.cells cs 212)) w.heap.size f := by
  subst hcs
  refine ⟨_, Box.fresh w _ _, by simp, fun b hb => ⟨false, by simp [hb], by simp [hf b]⟩⟩
theorem Hi2.step {l : List HintA} {k F Z hb : Nat} {w wr : World} {often : Int} {loop : Bool} {q : Nat} {cs : Array Value} (hx : l.getD k default = ⟨F, Z, often, loop⟩)
    (hcs : ∀ b, b < 32 → ∃ x : Bool, cs[b]? = some (.bool x) ∧ (x = true ↔ (∃ j, j < k ∧ inH (l.getD j default) b) ∨ F ≤ b ∧ b < F + q)) (hbm : Box wr w.heap.size 212 cs) (hsz : cs.size = 32)
    (hx2 : false = true ↔ (∃ j, j < k ∧ inH (l.getD j default) (F + q)) ∨ F ≤ F + q ∧ F + q < F + q)
    (hbx : Box wr hb 141 #[.int .i64 F, .int .i64 Z, .int .i64 often, .bool loop]) (ho : Only Non w wr) (hfree : ∀ b, F ≤ b → b < F + q → ¬ ∃ j, j < k ∧ inH (l.getD j default) b) (hq : q < Z) (h32 : F + Z ≤ 32) (hne : w.heap.size ≠ hb) :
    Hi2 l k F Z hb w.heap.size w often loop (.int .i64 ((q : Int) + 1)) (wr.setCell ⟨w.heap.size, F + q, none⟩ (.bool true)) := by
  refine ⟨q + 1, hq, by simp, ⟨_, hbm.store _ _, by simpa using hsz, fun b hb => ?_⟩, fun b h1 h2 => ?_, hbx.far (fun e => hne e.symm) _, ho.setCell (.inr (Nat.le_refl _)) _⟩
  · by_cases hbq : b = F + q
    · subst hbq
      exact ⟨true, by rw [Array.getElem?_setIfInBounds_self_of_lt (by omega)], ⟨fun _ => .inr ⟨by omega, by omega⟩, fun _ => rfl⟩⟩
    · obtain ⟨x, h1, h2⟩ := hcs b hb
      refine ⟨x, by rw [Array.getElem?_setIfInBounds_ne (by omega)]; exact h1, h2.trans ⟨fun h => ?_, fun h => ?_⟩⟩
      · rcases h with h | h
        · exact .inl h
        · exact .inr ⟨h.1, by omega⟩
      · rcases h with h | h
        · exact .inl h
        · exact .inr ⟨h.1, by omega⟩
  · by_cases hbq : b = F + q
    · subst hbq
      intro h
      exact Bool.false_ne_true (hx2.2 (.inl h))
    · exact hfree b h1 (by omega)
theorem Hi1.step {blocks : Int} {l : List HintA} {k F Z : Nat} {w wr : World} {often : Int} {loop : Bool} (hx : l.getD k default = ⟨F, Z, often, loop⟩)
    (hm : MetAt wr w.heap.size (fun b => (∃ j, j < k ∧ inH (l.getD j default) b) ∨ F ≤ b ∧ b < F + Z)) (hok : ∀ j, j < k → okH blocks (l.getD j default)) (hap : ∀ i j, i < j → j < k → apartH (l.getD i default) (l.getD j default))
    (hok1 : okH blocks ⟨F, Z, often, loop⟩) (hfree : ∀ b, F ≤ b → b < F + Z → ¬ ∃ j, j < k ∧ inH (l.getD j default) b) (ho : Only Non w wr) (hlt : k < l.length) : Hi1 blocks l w (.int .i64 ((k : Int) + 1)) wr := by
  refine ⟨k + 1, hlt, by simp, ?_, fun j hj => ?_, fun i j hij hj => ?_, ho⟩
  · obtain ⟨cs, h1, h2, h3⟩ := hm
    refine ⟨cs, h1, h2, fun b hb => ?_⟩
    obtain ⟨x, h4, h5⟩ := h3 b hb
    refine ⟨x, h4, h5.trans ⟨fun h => ?_, fun ⟨j, hj, h⟩ => ?_⟩⟩
    · rcases h with ⟨j, hj, h⟩ | h
      · exact ⟨j, by omega, h⟩
      · exact ⟨k, by omega, by rw [hx]; unfold inH; dsimp only; omega⟩
    · rcases Nat.lt_or_ge j k with hk | hk
      · exact .inl ⟨j, hk, h⟩
      · obtain rfl : j = k := by omega
        rw [hx] at h
        unfold inH at h
        dsimp only at h
        exact .inr (by omega)
  · rcases Nat.lt_or_ge j k with hk | hk
    · exact hok j hk
    · obtain rfl : j = k := by omega
      rw [hx]; exact hok1
  · rcases Nat.lt_or_ge j k with hk | hk
    · exact hap i j hij hk
    · obtain rfl : j = k := by omega
      have h1 := hok i hij
      rw [hx]
      unfold okH at h1 hok1
      unfold apartH
      dsimp only at hok1 ⊢
      generalize hg : l.getD i default = g at *
      by_cases hgf : g.fr ≤ F
      · have := hfree F (Nat.le_refl _) (by omega)
        have h2 : ¬ inH g F := fun h => this ⟨i, hij, by rw [hg]; exact h⟩
        unfold inH at h2
        omega
      · by_cases hc : g.fr < F + Z
        · have := hfree g.fr.toNat (by omega) (by omega)
          have h2 : ¬ inH g g.fr.toNat := fun h => this ⟨i, hij, by rw [hg]; exact h⟩
          unfold inH at h2
          omega
        · omega
theorem hints_any (A : Option Addr) (n c : Nat) (l : List HintA) (blocks : Int) (w : World) (h : HintsAt w A n c l) (hb1 : 1 ≤ blocks) (hb2 : blocks ≤ 32) :
    Calls Tryz.prog 155 #[.slice A n c, .int .i64 blocks] w fun e w' => e = .returned (.bool (hintsB blocks l)) ∧ Only Non w w' := by
  obtain rfl := h.len
  have hcap := h.cap
  have hmax := h.max
  have H := Lib.hid h
  have HW := Lib.hid (fun n a b w => within_any n a b w)
  unfold maxLen at hmax
  clear h
  go_enter Tryz.func155, Tryz.ntmps155
  go_wp2_with fail
  go_loopw [11] (fun i wr => Hi1 blocks l w i wr) (fun i _ => l.length - (intOf i).toNat)
  case atStart => exact ⟨0, Nat.zero_le _, rfl, met_zero w _ (fun b ⟨j, hj, _⟩ => absurd hj (by omega)) _ rfl, fun j hj => absurd hj (by omega), fun i j _ hj => absurd hj (by omega), (Only.refl _ _).alloc _⟩
  case round =>
    obtain ⟨k, hk, rfl, hm, hok, hap, ho⟩ := hrel
    have Hm := Lib.hid hm
    have Hok := Lib.hid hok
    have Hap := Lib.hid hap
    have Ho := Lib.hid ho
    by_cases hlt : k < l.length
    · obtain ⟨g, o, rfl, hg, x0, x1, x2, x3⟩ := (H.out.keep ho).at_ k hlt
      have Hno := Lib.hid (fun (h : ¬ okH blocks (l.getD k default)) => hintsB_no (blocks := blocks) (l := l) fun hp => h (hp.1 k hlt))
      have hltb : (k : Int) < l.length := by omega
      have Hlt := Lib.hid hlt
      clear hm hok hap ho
      generalize hx : l.getD k default = hd at *
      obtain ⟨fr, size, often, loop⟩ := hd
      have Hx := Lib.hid hx
      clear hx
      dsimp only at x0 x1 x2 x3
      by_cases c0 : fr < 0
      · have Hr := Lib.hid (Hno.out (fun h => by unfold okH at h; dsimp only at h; omega))
        go_wp2_with fail
        go_ret
        exact ⟨by rw [Hr.out]; rfl, Ho.out.alloc _⟩
      by_cases c1 : size < 1
      · have Hr := Lib.hid (Hno.out (fun h => by unfold okH at h; dsimp only at h; omega))
        go_wp2_with fail
        go_ret
        exact ⟨by rw [Hr.out]; rfl, Ho.out.alloc _⟩
      by_cases c2 : blocks < fr
      · have Hr := Lib.hid (Hno.out (fun h => by unfold okH at h; dsimp only at h; omega))
        go_wp2_with fail
        go_ret
        exact ⟨by rw [Hr.out]; rfl, Ho.out.alloc _⟩
      have e1 : IntKind.i64.wrap (blocks - fr) = blocks - fr := IntWalk.i64_in _ (by omega)
      by_cases c3 : blocks - fr < size
      · have Hr := Lib.hid (Hno.out (fun h => by unfold okH at h; dsimp only at h; omega))
        go_wp2_with fail
        go_ret
        exact ⟨by rw [Hr.out]; rfl, Ho.out.alloc _⟩
      have e2 : IntKind.i64.wrap (fr + size) = fr + size := IntWalk.i64_in _ (by omega)
      have c4 : ¬ 32 < fr + size := by omega
      have HWw := Lib.hid (fun w => HW.out often 0 2147483647 w)
      by_cases c5 : 0 ≤ often ∧ often ≤ 2147483647
      · have hww := HWw.out
        rw [decide_eq_true c5.1, decide_eq_true c5.2] at hww
        have HWy := Lib.hid hww
        clear hww HWw
        have hfr : fr = ((fr.toNat : Nat) : Int) := by omega
        have hsz : size = ((size.toNat : Nat) : Int) := by omega
        generalize fr.toNat = F at *
        generalize size.toNat = Z at *
        subst hfr hsz
        have Hok1 := Lib.hid (show okH blocks ⟨(F : Int), (Z : Int), often, loop⟩ from by unfold okH; dsimp only; omega)
        have HbH := Lib.hid (Box.fresh wr 141 #[.int .i64 F, .int .i64 Z, .int .i64 often, .bool loop])
        have HoH := Lib.hid (Ho.out.alloc (.cells #[.int .i64 F, .int .i64 Z, .int .i64 often, .bool loop] 141))
        have HmH := Lib.hid (show MetAt (wr.alloc (.cells #[.int .i64 F, .int .i64 Z, .int .i64 often, .bool loop] 141)) w.heap.size (fun b => ∃ j, j < k ∧ inH (l.getD j default) b) from by
          obtain ⟨cs, h1, h2⟩ := Hm.out.ex
          exact ⟨cs, h1.alloc _, h2⟩)
        have HzH := Lib.hid (show w.heap.size < wr.heap.size from by obtain ⟨cs, h1, h2⟩ := Hm.out.ex; exact h1.lt)
        have F32 : F + Z ≤ 32 := by omega
        have Hmb := Lib.hid (show w.heap.size ≠ wr.heap.size from by have := HzH.out; omega)
        go_wp2_with fail
        refine (HWy.out _).mono ?_
        rintro e w5 ⟨rfl, e5⟩
        rw [← e5]
        clear e5
        go_wp2_with fail
        generalize wr.alloc (.cells #[.int .i64 F, .int .i64 Z, .int .i64 often, .bool loop] 141) = X at *
        generalize hhb : wr.heap.size = hb at *
        have Hhb := Lib.hid hhb
        clear hhb
        go_loopw [54] (fun i wr => Hi2 l k F Z hb w.heap.size w often loop i wr) (fun i _ => Z - (intOf i).toNat)
        case atStart => exact ⟨0, Nat.zero_le _, rfl, by
          obtain ⟨cs, h1, h2, h3⟩ := HmH.out
          exact ⟨cs, h1, h2, fun b hb => by
            obtain ⟨x, h4, h5⟩ := h3 b hb
            exact ⟨x, h4, h5.trans ⟨Or.inl, fun h => h.resolve_right (by omega)⟩⟩⟩, fun b h1 h2 => absurd h2 (by omega), HbH.out, HoH.out⟩
        case round =>
          obtain ⟨q, hq, rfl, hm2, hfree, hbx, ho2⟩ := hrel
          have Hfree := Lib.hid hfree
          have Hbx := Lib.hid hbx
          have Ho2 := Lib.hid ho2
          have y0 : wr.cell? ⟨hb, 0, none⟩ = some (.int .i64 F) := hbx.cellAt rfl
          have y1 : wr.cell? ⟨hb, 1, none⟩ = some (.int .i64 Z) := hbx.cellAt rfl
          by_cases hqz : q < Z
          · obtain ⟨cs, hbm, hsz, hcs⟩ := hm2.ex
            obtain ⟨x, hx1, hx2⟩ := hcs (F + q) (by omega)
            have z0 : wr.cell? ⟨w.heap.size, F + q, none⟩ = some (.bool x) := hbm.cellAt hx1
            have z1 : wr.frozen? ⟨w.heap.size, F + q, none⟩ = false := hbm.free _
            have hwq : IntKind.i64.wrap ((F : Int) + q) = ((F + q : Nat) : Int) := by rw [← Int.natCast_add]; exact IntWalk.i64_in _ (by omega)
            have Hx2 := Lib.hid hx2
            have Hcs := Lib.hid hcs
            have Hbm := Lib.hid hbm
            have Hsz := Lib.hid hsz
            have Hm2 := Lib.hid hm2
            clear hm2 hfree hbx ho2 hx2 hcs hbm hsz hx1
            cases x with
            | true =>
              have Hr := Lib.hid (hintsB_no (blocks := blocks) (l := l) fun hp => by
                obtain ⟨j, hj, hin⟩ := (Hx2.out.1 rfl).resolve_right (by omega)
                have := hp.2.1 j k hj Hlt.out
                rw [Hx.out] at this
                unfold apartH at this
                unfold inH at hin
                dsimp only at this
                omega)
              go_wp2_with fail
              go_ret
              exact ⟨by rw [Hr.out]; rfl, Ho2.out⟩
            | false =>
              go_wp2_with fail
              exact ⟨Hi2.step Hx.out Hcs.out Hbm.out Hsz.out Hx2.out Hbx.out Ho2.out Hfree.out hqz F32 Hmb.out, by simp [intOf]; omega⟩
          · obtain rfl : q = Z := by omega
            have Hm2 := Lib.hid hm2
            clear hm2 hfree hbx ho2
            go_wp2_with fail
            refine ⟨?_, ?_⟩
            · (repeat first | exact ⟨Hi1.step Hx.out Hm2.out Hok.out Hap.out Hok1.out Hfree.out Ho2.out Hlt.out, rfl⟩ | exact Hi1.step Hx.out Hm2.out Hok.out Hap.out Hok1.out Hfree.out Ho2.out Hlt.out | apply Exists.intro)
            · simp [intOf]; omega
      · have hww := HWw.out
        have hf : (decide (0 ≤ often) && decide (often ≤ 2147483647)) = false := by
          rw [Bool.and_eq_false_iff, decide_eq_false_iff_not, decide_eq_false_iff_not]; omega
        rw [hf] at hww
        have HWy := Lib.hid hww
        have Hr := Lib.hid (Hno.out (fun h => by unfold okH at h; dsimp only at h; omega))
        clear hww hf HWw
        go_wp2_with fail
        refine (HWy.out _).mono ?_
        rintro e w5 ⟨rfl, rfl⟩
        go_wp2_with fail
        go_ret
        exact ⟨by rw [Hr.out]; rfl, Ho.out.alloc _⟩
    · have hkn : k = l.length := by omega
      clear hm hok hap ho
      by_cases h8 : l.length ≤ 8
      · have Hr := Lib.hid (hintsB_yes (blocks := blocks) (l := l) ⟨fun i hi => Hok.out i (by omega), fun i j hij hj => Hap.out i j hij (by omega), h8⟩)
        have h8b : (l.length : Int) ≤ 8 := by omega
        clear hkn
        go_wp2_with fail
        go_ret
        exact ⟨by rw [Hr.out]; rfl, Ho.out⟩
      · have Hr := Lib.hid (hintsB_no (blocks := blocks) (l := l) fun hp => h8 hp.2.2)
        have h8b : ¬ (l.length : Int) ≤ 8 := by omega
        clear hkn
        go_wp2_with fail
        go_ret
        exact ⟨by rw [Hr.out]; rfl, Ho.out⟩
end
end Go.Proofs.YtodephhlhdbeoaaGreat
namespace Go.Proofs.YtodephhlhdbeoaaGreat
open Go.RowKit
set_option linter.unusedVariables false
structure CfgA where
  f : Nat → Int
  h : List HintA
def cfgCells (c : CfgA) (hs : Value) : Array Value := #[.int .i64 (c.f 0), .int .i64 (c.f 1), .int .i64 (c.f 2), .int .i64 (c.f 3), .int .i64 (c.f 4), .int .i64 (c.f 5), .int .i64 (c.f 6), .int .i64 (c.f 7), .int .i64 (c.f 8), .int .i64 (c.f 9), .int .i64 (c.f 10), .int .i64 (c.f 11), .int .i64 (c.f 12), .int .i64 (c.f 13), .int .i64 (c.f 14), .int .i64 (c.f 15), hs]
theorem cfgCells_at (c : CfgA) (hs : Value) {i : Nat} (hi : i < 16) : (cfgCells c hs)[i]? = some (.int .i64 (c.f i)) := by
  unfold cfgCells
  rcases (show i = 0 ∨ i = 1 ∨ i = 2 ∨ i = 3 ∨ i = 4 ∨ i = 5 ∨ i = 6 ∨ i = 7 ∨ i = 8 ∨ i = 9 ∨ i = 10 ∨ i = 11 ∨ i = 12 ∨ i = 13 ∨ i = 14 ∨ i = 15 from by omega) with rfl | rfl | rfl | rfl | rfl | rfl | rfl | rfl | rfl | rfl | rfl | rfl | rfl | rfl | rfl | rfl <;> rfl
theorem cfgCells_hs (c : CfgA) (hs : Value) : (cfgCells c hs)[16]? = some hs := rfl
structure CfgP (c : CfgA) : Prop where
  p0 : 1 ≤ c.f 0 ∧ c.f 0 ≤ 4
  p1 : 1 ≤ c.f 1 ∧ c.f 1 ≤ 4
  p2 : 1 ≤ c.f 2 ∧ c.f 2 ≤ 32
  p3 : 1 ≤ c.f 3 ∧ c.f 3 ≤ 16
  p4 : 1 ≤ c.f 4 ∧ c.f 4 ≤ 3
  p5 : 0 ≤ c.f 5 ∧ c.f 5 ≤ 2
  pp : c.f 5 = 0 ∨ c.f 4 = 2
  pl : ∀ t, t < 3 → 1 ≤ c.f (6 + t) ∧ c.f (6 + t) ≤ 2
  pc : ∀ t, t < 3 → 1 ≤ c.f (9 + t) ∧ c.f (9 + t) ≤ 16
  p12 : 1 ≤ c.f 12 ∧ c.f 12 ≤ 8
  p13 : 1 ≤ c.f 13 ∧ c.f 13 ≤ 100
  p14 : 0 ≤ c.f 14 ∧ c.f 14 ≤ 16
  p15 : 1 ≤ c.f 15 ∧ c.f 15 ≤ 16
  ph : c.f 5 = 2 ∨ c.h.length = 0
  hs : hintsP (c.f 2) c.h
noncomputable def cfgB (c : CfgA) : Bool := @decide (CfgP c) (Classical.propDecidable _)
theorem cfgB_no {c : CfgA} (h : ¬ CfgP c) : cfgB c = false := by unfold cfgB; exact @decide_eq_false _ (Classical.propDecidable _) h
theorem cfgB_yes {c : CfgA} (h : CfgP c) : cfgB c = true := by unfold cfgB; exact @decide_eq_true _ (Classical.propDecidable _) h
theorem cfgB_iff {c : CfgA} : cfgB c = true ↔ CfgP c := by unfold cfgB; exact @decide_eq_true_iff _ (Classical.propDecidable _)
theorem hintsB_iff {b : Int} {l : List HintA} : hintsB b l = true ↔ hintsP b l := by unfold hintsB; exact @decide_eq_true_iff _ (Classical.propDecidable _)
theorem CfgP.range {c : CfgA} (h : CfgP c) : ∀ i, i < 16 → 0 ≤ c.f i ∧ c.f i ≤ 100 := by
  intro i hi
  have a0 := h.p0; have a1 := h.p1; have a2 := h.p2; have a3 := h.p3; have a4 := h.p4; have a5 := h.p5
  have b0 : 1 ≤ c.f 6 ∧ c.f 6 ≤ 2 := h.pl 0 (by omega); have b1 : 1 ≤ c.f 7 ∧ c.f 7 ≤ 2 := h.pl 1 (by omega); have b2 : 1 ≤ c.f 8 ∧ c.f 8 ≤ 2 := h.pl 2 (by omega)
  have d0 : 1 ≤ c.f 9 ∧ c.f 9 ≤ 16 := h.pc 0 (by omega); have d1 : 1 ≤ c.f 10 ∧ c.f 10 ≤ 16 := h.pc 1 (by omega); have d2 : 1 ≤ c.f 11 ∧ c.f 11 ≤ 16 := h.pc 2 (by omega)
  have a12 := h.p12; have a13 := h.p13; have a14 := h.p14; have a15 := h.p15
  rcases (show i = 0 ∨ i = 1 ∨ i = 2 ∨ i = 3 ∨ i = 4 ∨ i = 5 ∨ i = 6 ∨ i = 7 ∨ i = 8 ∨ i = 9 ∨ i = 10 ∨ i = 11 ∨ i = 12 ∨ i = 13 ∨ i = 14 ∨ i = 15 from by omega) with rfl | rfl | rfl | rfl | rfl | rfl | rfl | rfl | rfl | rfl | rfl | rfl | rfl | rfl | rfl | rfl <;> omega
theorem within_yes {n a b : Int} (h : a ≤ n ∧ n ≤ b) (w : World) : Calls Tryz.prog 154 #[.int .i64 n, .int .i64 a, .int .i64 b] w fun e w' => e = .returned (.bool true) ∧ w = w' := by
  have := within_any n a b w
  rwa [decide_eq_true h.1, decide_eq_true h.2] at this
theorem within_no {n a b : Int} (h : ¬ (a ≤ n ∧ n ≤ b)) (w : World) : Calls Tryz.prog 154 #[.int .i64 n, .int .i64 a, .int .i64 b] w fun e w' => e = .returned (.bool false) ∧ w = w' := by
  have := within_any n a b w
  rwa [show (decide (a ≤ n) && decide (n ≤ b)) = false from by rw [Bool.and_eq_false_iff, decide_eq_false_iff_not, decide_eq_false_iff_not]; omega] at this
end Go.Proofs.YtodephhlhdbeoaaGreat
namespace Go.Proofs.YtodephhlhdbeoaaGreat
open Go.RowKit
set_option linter.unusedVariables false
set_option linter.unusedSimpArgs false
def RtRel (c : CfgA) (hs : Value) (w : World) (i : Value) (wr : World) : Prop :=
  ∃ t : Nat, t ≤ 3 ∧ i = .int .i64 t ∧ (∀ j, j < t → (1 ≤ c.f (6 + j) ∧ c.f (6 + j) ≤ 2) ∧ (1 ≤ c.f (9 + j) ∧ c.f (9 + j) ≤ 16)) ∧ wr = w.alloc (.cells (cfgCells c hs) 25)
section
set_option maxHeartbeats 2000000
set_option maxRecDepth 100000
theorem right_any (A : Option Addr) (n cp : Nat) (c : CfgA) (w : World) (h : HintsAt w A n cp c.h) :
    Calls Tryz.prog 83 #[.agg (cfgCells c (.slice A n cp))] w fun e w' => e = .returned (.bool (cfgB c)) ∧ Only Non w w' := by
  have H := Lib.hid h
  clear h
  go_enter Tryz.func83, Tryz.ntmps83
  go_wp2_with fail
  have HO := Lib.hid (show Only Non w (w.alloc (.cells (cfgCells c (.slice A n cp)) 25)) from (Only.refl _ _).alloc _)
  have HB := Lib.hid (Box.fresh w 25 (cfgCells c (.slice A n cp)))
  go_loopw [4] (fun i wr => RtRel c (.slice A n cp) w i wr) (fun i _ => 3 - (intOf i).toNat)
  case atStart => exact ⟨0, by omega, rfl, fun j hj => absurd hj (by omega), rfl⟩
  case round =>
    obtain ⟨t, ht, rfl, hl, rfl⟩ := hrel
    have HL := Lib.hid hl
    clear hl
    by_cases hlt : t < 3
    · have x6 : (w.alloc (.cells (cfgCells c (.slice A n cp)) 25)).cell? ⟨w.heap.size, 6 + t, none⟩ = some (.int .i64 (c.f (6 + t))) := HB.out.cellAt (cfgCells_at c _ (by omega))
      have x9 : (w.alloc (.cells (cfgCells c (.slice A n cp)) 25)).cell? ⟨w.heap.size, 9 + t, none⟩ = some (.int .i64 (c.f (9 + t))) := HB.out.cellAt (cfgCells_at c _ (by omega))
      generalize hw1 : w.alloc (.cells (cfgCells c (.slice A n cp)) 25) = w1 at *
      have Hw1 := Lib.hid hw1
      clear hw1
      have hltb : (t : Int) < 3 := by omega
      go_wp2_with fail
      by_cases hh : 1 ≤ c.f (6 + t) ∧ c.f (6 + t) ≤ 2
      rotate_left
      · refine (within_no hh _).mono ?_
        rintro e w5 ⟨rfl, e5⟩
        rw [← e5]
        clear e5
        have Hr := Lib.hid (cfgB_no (c := c) fun p => hh (p.pl t hlt))
        go_wp2_with fail
        go_ret
        exact ⟨by rw [Hr.out]; rfl, HO.out⟩
      have G6 := Lib.hid hh
      refine (within_yes hh _).mono ?_
      rintro e w5 ⟨rfl, e5⟩
      rw [← e5]
      clear e5 hh
      go_wp2_with fail
      by_cases hh : 1 ≤ c.f (9 + t) ∧ c.f (9 + t) ≤ 16
      rotate_left
      · refine (within_no hh _).mono ?_
        rintro e w5 ⟨rfl, e5⟩
        rw [← e5]
        clear e5
        have Hr := Lib.hid (cfgB_no (c := c) fun p => hh (p.pc t hlt))
        go_wp2_with fail
        go_ret
        exact ⟨by rw [Hr.out]; rfl, HO.out⟩
      have G9 := Lib.hid hh
      refine (within_yes hh _).mono ?_
      rintro e w5 ⟨rfl, e5⟩
      rw [← e5]
      clear e5 hh
      go_wp2_with fail
      have HR := Lib.hid (show RtRel c (.slice A n cp) w (.int .i64 ((t : Int) + 1)) w1 from ⟨t + 1, hlt, by simp, fun j hj => by
        rcases Nat.lt_or_ge j t with h | h
        · exact HL.out j h
        · obtain rfl : j = t := by omega
          exact ⟨G6.out, G9.out⟩, Hw1.out.symm⟩)
      refine ⟨?_, ?_⟩
      · (repeat first | exact ⟨HR.out, rfl⟩ | exact HR.out | apply Exists.intro)
      · simp [intOf]; omega
    · obtain rfl : t = 3 := by omega
      have HL := Lib.hid (show (∀ t, t < 3 → 1 ≤ c.f (6 + t) ∧ c.f (6 + t) ≤ 2) ∧ (∀ t, t < 3 → 1 ≤ c.f (9 + t) ∧ c.f (9 + t) ≤ 16) from ⟨fun j hj => (HL.out j hj).1, fun j hj => (HL.out j hj).2⟩)
      have x0 := HB.out.cellAt (cfgCells_at c (.slice A n cp) (i := 0) (by omega))
      have x1 := HB.out.cellAt (cfgCells_at c (.slice A n cp) (i := 1) (by omega))
      have x2 := HB.out.cellAt (cfgCells_at c (.slice A n cp) (i := 2) (by omega))
      have x3 := HB.out.cellAt (cfgCells_at c (.slice A n cp) (i := 3) (by omega))
      have x4 := HB.out.cellAt (cfgCells_at c (.slice A n cp) (i := 4) (by omega))
      have x5 := HB.out.cellAt (cfgCells_at c (.slice A n cp) (i := 5) (by omega))
      have x12 := HB.out.cellAt (cfgCells_at c (.slice A n cp) (i := 12) (by omega))
      have x13 := HB.out.cellAt (cfgCells_at c (.slice A n cp) (i := 13) (by omega))
      have x14 := HB.out.cellAt (cfgCells_at c (.slice A n cp) (i := 14) (by omega))
      have x15 := HB.out.cellAt (cfgCells_at c (.slice A n cp) (i := 15) (by omega))
      have x16 := HB.out.cellAt (cfgCells_hs c (.slice A n cp))
      generalize hw1 : w.alloc (.cells (cfgCells c (.slice A n cp)) 25) = w1 at *
      have Hw1 := Lib.hid hw1
      clear hw1
      go_wp2_with fail
      by_cases hh : 1 ≤ c.f 0 ∧ c.f 0 ≤ 4
      rotate_left
      · refine (within_no hh _).mono ?_
        rintro e w5 ⟨rfl, e5⟩
        rw [← e5]
        clear e5
        have Hr := Lib.hid (cfgB_no (c := c) fun p => hh p.p0)
        go_wp2_with fail
        go_ret
        exact ⟨by rw [Hr.out]; rfl, HO.out⟩
      have H0 := Lib.hid hh
      refine (within_yes hh _).mono ?_
      rintro e w5 ⟨rfl, e5⟩
      rw [← e5]
      clear e5 hh
      go_wp2_with fail
      by_cases hh : 1 ≤ c.f 1 ∧ c.f 1 ≤ 4
      rotate_left
      · refine (within_no hh _).mono ?_
        rintro e w5 ⟨rfl, e5⟩
        rw [← e5]
        clear e5
        have Hr := Lib.hid (cfgB_no (c := c) fun p => hh p.p1)
        go_wp2_with fail
        go_ret
        exact ⟨by rw [Hr.out]; rfl, HO.out⟩
      have H1 := Lib.hid hh
      refine (within_yes hh _).mono ?_
      rintro e w5 ⟨rfl, e5⟩
      rw [← e5]
      clear e5 hh
      go_wp2_with fail
      by_cases hh : 1 ≤ c.f 2 ∧ c.f 2 ≤ 32
      rotate_left
      · refine (within_no hh _).mono ?_
        rintro e w5 ⟨rfl, e5⟩
        rw [← e5]
        clear e5
        have Hr := Lib.hid (cfgB_no (c := c) fun p => hh p.p2)
        go_wp2_with fail
        go_ret
        exact ⟨by rw [Hr.out]; rfl, HO.out⟩
      have H2 := Lib.hid hh
      refine (within_yes hh _).mono ?_
      rintro e w5 ⟨rfl, e5⟩
      rw [← e5]
      clear e5 hh
      go_wp2_with fail
      by_cases hh : 1 ≤ c.f 3 ∧ c.f 3 ≤ 16
      rotate_left
      · refine (within_no hh _).mono ?_
        rintro e w5 ⟨rfl, e5⟩
        rw [← e5]
        clear e5
        have Hr := Lib.hid (cfgB_no (c := c) fun p => hh p.p3)
        go_wp2_with fail
        go_ret
        exact ⟨by rw [Hr.out]; rfl, HO.out⟩
      have H3 := Lib.hid hh
      refine (within_yes hh _).mono ?_
      rintro e w5 ⟨rfl, e5⟩
      rw [← e5]
      clear e5 hh
      go_wp2_with fail
      by_cases hh : 1 ≤ c.f 4 ∧ c.f 4 ≤ 3
      rotate_left
      · refine (within_no hh _).mono ?_
        rintro e w5 ⟨rfl, e5⟩
        rw [← e5]
        clear e5
        have Hr := Lib.hid (cfgB_no (c := c) fun p => hh p.p4)
        go_wp2_with fail
        go_ret
        exact ⟨by rw [Hr.out]; rfl, HO.out⟩
      have H4 := Lib.hid hh
      refine (within_yes hh _).mono ?_
      rintro e w5 ⟨rfl, e5⟩
      rw [← e5]
      clear e5 hh
      go_wp2_with fail
      by_cases hh : 0 ≤ c.f 5 ∧ c.f 5 ≤ 2
      rotate_left
      · refine (within_no hh _).mono ?_
        rintro e w5 ⟨rfl, e5⟩
        rw [← e5]
        clear e5
        have Hr := Lib.hid (cfgB_no (c := c) fun p => hh p.p5)
        go_wp2_with fail
        go_ret
        exact ⟨by rw [Hr.out]; rfl, HO.out⟩
      have H5 := Lib.hid hh
      refine (within_yes hh _).mono ?_
      rintro e w5 ⟨rfl, e5⟩
      rw [← e5]
      clear e5 hh
      by_cases hz : c.f 5 = 0
      · have HN2 := Lib.hid (show ¬ c.f 5 = 2 from by omega)
        have HZ := Lib.hid hz
        have g5 : (c.f 5 != 0) = false := by simp [hz]
        have g6 : (c.f 5 != 2) = true := by simp [hz]
        clear hz
        go_wp2_with fail
        by_cases hh : 1 ≤ c.f 12 ∧ c.f 12 ≤ 8
        rotate_left
        · refine (within_no hh _).mono ?_
          rintro e w5 ⟨rfl, e5⟩
          rw [← e5]
          clear e5
          have Hr := Lib.hid (cfgB_no (c := c) fun p => hh p.p12)
          go_wp2_with fail
          go_ret
          exact ⟨by rw [Hr.out]; rfl, HO.out⟩
        have H12 := Lib.hid hh
        refine (within_yes hh _).mono ?_
        rintro e w5 ⟨rfl, e5⟩
        rw [← e5]
        clear e5 hh
        go_wp2_with fail
        by_cases hh : 1 ≤ c.f 13 ∧ c.f 13 ≤ 100
        rotate_left
        · refine (within_no hh _).mono ?_
          rintro e w5 ⟨rfl, e5⟩
          rw [← e5]
          clear e5
          have Hr := Lib.hid (cfgB_no (c := c) fun p => hh p.p13)
          go_wp2_with fail
          go_ret
          exact ⟨by rw [Hr.out]; rfl, HO.out⟩
        have H13 := Lib.hid hh
        refine (within_yes hh _).mono ?_
        rintro e w5 ⟨rfl, e5⟩
        rw [← e5]
        clear e5 hh
        go_wp2_with fail
        by_cases hh : 0 ≤ c.f 14 ∧ c.f 14 ≤ 16
        rotate_left
        · refine (within_no hh _).mono ?_
          rintro e w5 ⟨rfl, e5⟩
          rw [← e5]
          clear e5
          have Hr := Lib.hid (cfgB_no (c := c) fun p => hh p.p14)
          go_wp2_with fail
          go_ret
          exact ⟨by rw [Hr.out]; rfl, HO.out⟩
        have H14 := Lib.hid hh
        refine (within_yes hh _).mono ?_
        rintro e w5 ⟨rfl, e5⟩
        rw [← e5]
        clear e5 hh
        go_wp2_with fail
        by_cases hh : 1 ≤ c.f 15 ∧ c.f 15 ≤ 16
        rotate_left
        · refine (within_no hh _).mono ?_
          rintro e w5 ⟨rfl, e5⟩
          rw [← e5]
          clear e5
          have Hr := Lib.hid (cfgB_no (c := c) fun p => hh p.p15)
          go_wp2_with fail
          go_ret
          exact ⟨by rw [Hr.out]; rfl, HO.out⟩
        have H15 := Lib.hid hh
        refine (within_yes hh _).mono ?_
        rintro e w5 ⟨rfl, e5⟩
        rw [← e5]
        clear e5 hh
        by_cases h2 : c.h.length = 0
        · have Hh := Lib.hid h2
          have g2 : ¬ ((0 : Int) < (n : Int)) := by have := H.out.len; omega
          clear h2
          have Hb := Lib.hid (show cfgB c = hintsB (c.f 2) c.h from by
            rw [Bool.eq_iff_iff, cfgB_iff, hintsB_iff]
            exact ⟨fun p => p.hs, fun p => ⟨H0.out, H1.out, H2.out, H3.out, H4.out, H5.out, .inl HZ.out, HL.out.1, HL.out.2, H12.out, H13.out, H14.out, H15.out, .inr Hh.out, p⟩⟩)
          go_wp2_with fail
          refine (hints_any A n cp c.h (c.f 2) _ (H.out.keep HO.out) H2.out.1 H2.out.2).mono ?_
          rintro e w6 ⟨rfl, ho6⟩
          have Ho6 := Lib.hid (HO.out.transN ho6)
          clear ho6
          go_wp2_with fail
          go_ret
          exact ⟨by rw [Hb.out]; rfl, Ho6.out⟩
        · have Hh := Lib.hid h2
          have g2 : (0 : Int) < (n : Int) := by have := H.out.len; omega
          clear h2
          have Hr := Lib.hid (cfgB_no (c := c) fun p => p.ph.elim (fun h => HN2.out h) Hh.out)
          go_wp2_with fail
          go_ret
          exact ⟨by rw [Hr.out]; rfl, HO.out⟩
      · by_cases hm : c.f 4 = 2
        · have g5 : (c.f 5 != 0) = true := by simp [hz]
          have g4 : (c.f 4 != 2) = false := by simp [hm]
          have HM := Lib.hid hm
          clear hz hm
          go_wp2_with fail
          by_cases hh : 1 ≤ c.f 12 ∧ c.f 12 ≤ 8
          rotate_left
          · refine (within_no hh _).mono ?_
            rintro e w5 ⟨rfl, e5⟩
            rw [← e5]
            clear e5
            have Hr := Lib.hid (cfgB_no (c := c) fun p => hh p.p12)
            go_wp2_with fail
            go_ret
            exact ⟨by rw [Hr.out]; rfl, HO.out⟩
          have H12 := Lib.hid hh
          refine (within_yes hh _).mono ?_
          rintro e w5 ⟨rfl, e5⟩
          rw [← e5]
          clear e5 hh
          go_wp2_with fail
          by_cases hh : 1 ≤ c.f 13 ∧ c.f 13 ≤ 100
          rotate_left
          · refine (within_no hh _).mono ?_
            rintro e w5 ⟨rfl, e5⟩
            rw [← e5]
            clear e5
            have Hr := Lib.hid (cfgB_no (c := c) fun p => hh p.p13)
            go_wp2_with fail
            go_ret
            exact ⟨by rw [Hr.out]; rfl, HO.out⟩
          have H13 := Lib.hid hh
          refine (within_yes hh _).mono ?_
          rintro e w5 ⟨rfl, e5⟩
          rw [← e5]
          clear e5 hh
          go_wp2_with fail
          by_cases hh : 0 ≤ c.f 14 ∧ c.f 14 ≤ 16
          rotate_left
          · refine (within_no hh _).mono ?_
            rintro e w5 ⟨rfl, e5⟩
            rw [← e5]
            clear e5
            have Hr := Lib.hid (cfgB_no (c := c) fun p => hh p.p14)
            go_wp2_with fail
            go_ret
            exact ⟨by rw [Hr.out]; rfl, HO.out⟩
          have H14 := Lib.hid hh
          refine (within_yes hh _).mono ?_
          rintro e w5 ⟨rfl, e5⟩
          rw [← e5]
          clear e5 hh
          go_wp2_with fail
          by_cases hh : 1 ≤ c.f 15 ∧ c.f 15 ≤ 16
          rotate_left
          · refine (within_no hh _).mono ?_
            rintro e w5 ⟨rfl, e5⟩
            rw [← e5]
            clear e5
            have Hr := Lib.hid (cfgB_no (c := c) fun p => hh p.p15)
            go_wp2_with fail
            go_ret
            exact ⟨by rw [Hr.out]; rfl, HO.out⟩
          have H15 := Lib.hid hh
          refine (within_yes hh _).mono ?_
          rintro e w5 ⟨rfl, e5⟩
          rw [← e5]
          clear e5 hh
          by_cases h5 : c.f 5 = 2
          · have HN2 := Lib.hid h5
            have g6 : (c.f 5 != 2) = false := by simp [h5]
            clear h5
            have Hb := Lib.hid (show cfgB c = hintsB (c.f 2) c.h from by
              rw [Bool.eq_iff_iff, cfgB_iff, hintsB_iff]
              exact ⟨fun p => p.hs, fun p => ⟨H0.out, H1.out, H2.out, H3.out, H4.out, H5.out, .inr HM.out, HL.out.1, HL.out.2, H12.out, H13.out, H14.out, H15.out, .inl HN2.out, p⟩⟩)
            go_wp2_with fail
            refine (hints_any A n cp c.h (c.f 2) _ (H.out.keep HO.out) H2.out.1 H2.out.2).mono ?_
            rintro e w6 ⟨rfl, ho6⟩
            have Ho6 := Lib.hid (HO.out.transN ho6)
            clear ho6
            go_wp2_with fail
            go_ret
            exact ⟨by rw [Hb.out]; rfl, Ho6.out⟩
          · have HN2 := Lib.hid h5
            have g6 : (c.f 5 != 2) = true := by simp [h5]
            clear h5
            by_cases h2 : c.h.length = 0
            · have Hh := Lib.hid h2
              have g2 : ¬ ((0 : Int) < (n : Int)) := by have := H.out.len; omega
              clear h2
              have Hb := Lib.hid (show cfgB c = hintsB (c.f 2) c.h from by
                rw [Bool.eq_iff_iff, cfgB_iff, hintsB_iff]
                exact ⟨fun p => p.hs, fun p => ⟨H0.out, H1.out, H2.out, H3.out, H4.out, H5.out, .inr HM.out, HL.out.1, HL.out.2, H12.out, H13.out, H14.out, H15.out, .inr Hh.out, p⟩⟩)
              go_wp2_with fail
              refine (hints_any A n cp c.h (c.f 2) _ (H.out.keep HO.out) H2.out.1 H2.out.2).mono ?_
              rintro e w6 ⟨rfl, ho6⟩
              have Ho6 := Lib.hid (HO.out.transN ho6)
              clear ho6
              go_wp2_with fail
              go_ret
              exact ⟨by rw [Hb.out]; rfl, Ho6.out⟩
            · have Hh := Lib.hid h2
              have g2 : (0 : Int) < (n : Int) := by have := H.out.len; omega
              clear h2
              have Hr := Lib.hid (cfgB_no (c := c) fun p => p.ph.elim (fun h => HN2.out h) Hh.out)
              go_wp2_with fail
              go_ret
              exact ⟨by rw [Hr.out]; rfl, HO.out⟩
        · have g5 : (c.f 5 != 0) = true := by simp [hz]
          have g4 : (c.f 4 != 2) = true := by simp [hm]
          have HH := Lib.hid (And.intro hz hm)
          clear hz hm
          have Hr := Lib.hid (cfgB_no (c := c) fun p => p.pp.elim HH.out.1 HH.out.2)
          go_wp2_with fail
          go_ret
          exact ⟨by rw [Hr.out]; rfl, HO.out⟩
end
end Go.Proofs.YtodephhlhdbeoaaGreat
namespace Go.Proofs.YtodephhlhdbeoaaGreat
open Go.RowKit Go.ChangeShapes Go.WideShapes
set_option linter.unusedVariables false
set_option linter.unusedSimpArgs false
theorem flat_at {α β : Type} (f : α → List β) (s : Nat) (d : α) (hf : ∀ a, (f a).length = s) : ∀ (l : List α) (i j : Nat), i < l.length → j < s → (l.flatMap f)[i * s + j]? = (f (l.getD i d))[j]?
  | [], i, j, h, _ => absurd h (Nat.not_lt_zero _)
  | a :: l, 0, j, _, hj => by
    rw [List.flatMap_cons, Nat.zero_mul, Nat.zero_add, List.getElem?_append_left (by rw [hf]; exact hj)]
    rfl
  | a :: l, i + 1, j, h, hj => by
    rw [List.flatMap_cons, List.getElem?_append_right (by rw [hf, Nat.succ_mul]; omega), hf, show (i + 1) * s + j - s = i * s + j from by rw [Nat.succ_mul]; omega]
    exact flat_at f s d hf l i j (by simpa using h) hj
def hC (h : HintA) : List Value := [.int .i64 h.fr, .int .i64 h.size, .int .i64 h.often, .bool h.loop]
theorem hC_len (h : HintA) : (hC h).length = 4 := rfl
theorem hflat_len (L : List HintA) : (L.flatMap hC).length = L.length * 4 := by
  rw [List.length_flatMap]
  have : (L.map fun p => (hC p).length) = L.map fun _ => 4 := rfl
  rw [this, List.map_const', List.sum_replicate_nat]
theorem HintsAt.cells {w : World} {A : Option Addr} {n c : Nat} {l : List HintA} (h : HintsAt w A n c l) (ad : Addr) (had : A = some ad) : ∀ j u, (l.flatMap hC)[j]? = some u → w.cell? (ad.add j) = some u := by
  intro j u hj
  have hjl : j < l.length * 4 := by rw [← hflat_len]; exact (List.getElem?_eq_some_iff.1 hj).1
  have hi : j / 4 < l.length := by omega
  obtain ⟨g, o, e, hg, c0, c1, c2, c3⟩ := h.at_ (j / 4) hi
  rw [had] at e
  injection e with e
  subst e
  have hd : j = j / 4 * 4 + j % 4 := by omega
  rw [hd, flat_at hC 4 default hC_len l (j / 4) (j % 4) hi (by omega)] at hj
  rw [Addr.add_lit]
  have hm : j % 4 < 4 := Nat.mod_lt _ (by decide)
  rw [show o + j = o + j / 4 * 4 + j % 4 from by omega]
  generalize j % 4 = q at *
  rcases (show q = 0 ∨ q = 1 ∨ q = 2 ∨ q = 3 by omega) with rfl | rfl | rfl | rfl
  · exact c0.trans hj
  · exact c1.trans hj
  · exact c2.trans hj
  · exact c3.trans hj
theorem owns_hints {w : World} {base : Nat} {v : Value} {L : List HintA} (h : w.ownsRow base 141 4 v L.length (L.flatMap hC)) : ∃ A c, v = .slice A L.length c ∧ HintsAt w A L.length c L := by
  rcases h.2 with ⟨e, h0⟩ | ⟨g, cap, cur, e, hb, hg, hn, hm, hs, ht⟩
  · rw [h0]
    refine ⟨none, 0, e, ⟨h0.symm, Nat.zero_le _, Nat.zero_le _, fun i hi => ?_⟩⟩
    omega
  · refine ⟨some ⟨g, 0, none⟩, cap, e, ⟨rfl, hn, hm, fun i hi => ?_⟩⟩
    have key : ∀ j u, j < 4 → (hC (L.getD i default))[j]? = some u → w.cell? ⟨g, 0 + i * 4 + j, none⟩ = some u := fun j u hj hu => by
      have hc := h.cells (g := g) (by rw [e]; rfl) (i * 4 + j) u (by rw [flat_at hC 4 default hC_len L i j hi hj]; exact hu)
      rw [Addr.add_lit, ← Nat.add_assoc] at hc
      exact hc
    exact ⟨g, 0, rfl, (Array.getElem?_eq_some_iff.1 hg).1, key 0 _ (by decide) rfl, key 1 _ (by decide) rfl, key 2 _ (by decide) rfl, key 3 _ (by decide) rfl⟩
def zH : Array Value := #[.int .i64 0, .int .i64 0, .int .i64 0, .bool false]
theorem hintInfo : (Tryz.prog.info? 141).map (fun i => (i.zero, i.size, i.bytes)) = some (some (.agg zH), 4, 32) := by kernel_rfl
def HCloneT (l : List HintA) (w : World) (e : Ending) (w' : World) : Prop :=
  ∃ A c, e = .returned (.slice A l.length c) ∧ HintsAt w' A l.length c l ∧ Only Non w w' ∧ (∀ k, ownB (.slice A l.length c) k → w.heap.size ≤ k) ∧ ∀ k, ownB (.slice A l.length c) k → ∃ cs, Box w' k 141 cs
def HClone (l : List HintA) (w : World) (e : Ending) (w' : World) : Prop :=
  ∃ A c, e = .returned (.slice A l.length c) ∧ HintsAt w' A l.length c l ∧ Only Non w w' ∧ ∀ k, ownB (.slice A l.length c) k → w.heap.size ≤ k
section
set_option maxHeartbeats 4000000
set_option maxRecDepth 100000
theorem hclone_typed {A : Option Addr} {n c : Nat} {l : List HintA} (w : World) (h : HintsAt w A n c l) (hl : l.length ≤ 100) : Calls Tryz.prog 84 #[.slice A n c] w (HCloneT l w) := by
  have he := fun w => Lib.run_eql_slice_nil (P := Tryz.prog) (w := w)
  obtain rfl := h.len
  cases A with
  | none =>
    have h0 : l = [] := by
      cases l with
      | nil => rfl
      | cons a l =>
        obtain ⟨g, o, e, _⟩ := h.at_ 0 (Nat.zero_lt_succ _)
        cases e
    subst h0
    clear h
    go_enter Tryz.func84, Tryz.ntmps84
    go_wp2_with fail
    go_ret
    exact ⟨none, 0, rfl, ⟨rfl, Nat.le_refl _, Nat.zero_le _, fun i hi => absurd hi (Nat.not_lt_zero _)⟩, Only.refl _ _, fun k hk => (ownB_none hk).elim, fun k hk => (ownB_none hk).elim⟩
  | some ad =>
    obtain ⟨i0, hi, hz, hsz, hby⟩ := info_parts hintInfo
    have hal : Only Non w (w.alloc (.cells #[] 141)) := (Only.refl _ _).alloc _
    have hown : (w.alloc (.cells #[] 141)).ownsRow w.heap.size 141 4 (.slice (some ⟨w.heap.size, 0, none⟩) 0 0) 0 [] := ⟨rfl, .inr ⟨w.heap.size, 0, #[], rfl, Nat.le_refl _, Box.fresh w 141 #[], Nat.le_refl _, Nat.zero_le _, rfl, rfl⟩⟩
    have hcells := (h.keep hal).cells ad rfl
    have HOW := Lib.hid hown
    have HCE := Lib.hid hcells
    have HAL := Lib.hid hal
    have HIN := Lib.hid (show ∀ u ∈ l.flatMap hC, u.oneCell' = true from fun u hu => by
      obtain ⟨p, hp, hu⟩ := List.mem_flatMap.1 hu
      simp [hC] at hu
      rcases hu with rfl | rfl | rfl | rfl <;> rfl)
    have HL := Lib.hid hl
    have HI := Lib.hid hi
    have HZ := Lib.hid hz
    have HS := Lib.hid hsz
    have HB := Lib.hid hby
    clear hown hcells hal h hl hi hz hsz hby
    go_enter Tryz.func84, Tryz.ntmps84
    go_wp2_with (at_builtin; refine wpList_append_own_at (w.alloc (.cells #[] 141)) rfl (.tmp 5) (.tmp 6) 23 rfl w.heap.size 141 i0 _ 4 32 Tryz.underlying23 HI.out HZ.out HS.out HB.out rfl (by decide) _ 0 [] rfl HOW.out ad l.length c (l.flatMap hC) rfl (hflat_len l) HCE.out HIN.out (by have := HL.out; unfold maxLen; omega) (by have := HL.out; omega) (by rw [World.size_alloc]; omega) ?_; intro v' w1 h2 h3 h4 h5; have H2 := Lib.hid h2; have H3 := Lib.hid h3; have H5 := Lib.hid h5; clear h2 h3 h4 h5)
    go_ret
    have h2 := H2.out
    rw [Nat.zero_add, List.nil_append] at h2
    obtain ⟨A', c', rfl, hh⟩ := owns_hints h2
    exact ⟨A', c', rfl, hh, HAL.out.trans' ((Only.refl _ _).grown (S := fun k => w.heap.size ≤ k) H3.out fun k hk => .inl (by
      have : w.heap.size = k := ownB_slice.1 hk
      omega)) fun k hk => .inr hk, fun k hk => (World.ownsRow.lt h2 k hk).1, fun k hk => by
      rcases h2.2 with ⟨e9, _⟩ | ⟨g9, cap9, cur9, e9, _, hg9, _⟩
      · rw [e9] at hk
        exact (ownB_none hk).elim
      · rw [e9] at hk
        rw [← ownB_slice.1 hk]
        exact ⟨cur9, hg9⟩⟩
theorem hclone_any {A : Option Addr} {n c : Nat} {l : List HintA} (w : World) (h : HintsAt w A n c l) (hl : l.length ≤ 100) : Calls Tryz.prog 84 #[.slice A n c] w (HClone l w) :=
  (hclone_typed w h hl).mono fun e w' ⟨A, c, h1, h2, h3, h4, _⟩ => ⟨A, c, h1, h2, h3, h4⟩
end
end Go.Proofs.YtodephhlhdbeoaaGreat
namespace Go.Proofs.YtodephhlhdbeoaaGreat
open Go.RowKit
set_option linter.unusedVariables false
set_option linter.unusedSimpArgs false
section
set_option maxHeartbeats 2000000
set_option maxRecDepth 100000
theorem between_yes {n a b : Int} (h : a ≤ n ∧ n ≤ b) (w : World) : Calls Tryz.prog 86 #[.int .i64 n, .int .i64 a, .int .i64 b] w fun e w' => e = .returned (.bool true) ∧ w = w' := by
  obtain ⟨h1, h2⟩ := h
  go_enter Tryz.func86, Tryz.ntmps86
  go_wp2_with fail
  go_ret
  exact ⟨rfl, rfl⟩
theorem between_no {n a b : Int} (h : ¬ (a ≤ n ∧ n ≤ b)) (w : World) : Calls Tryz.prog 86 #[.int .i64 n, .int .i64 a, .int .i64 b] w fun e w' => e = .returned (.bool false) ∧ w = w' := by
  by_cases h1 : a ≤ n
  · have h2 : ¬ n ≤ b := by omega
    clear h
    go_enter Tryz.func86, Tryz.ntmps86
    go_wp2_with fail
    go_ret
    exact ⟨rfl, rfl⟩
  · clear h
    go_enter Tryz.func86, Tryz.ntmps86
    go_wp2_with fail
    go_ret
    exact ⟨rfl, rfl⟩
def hintV (h : HintA) : Value := .agg #[.int .i64 h.fr, .int .i64 h.size, .int .i64 h.often, .bool h.loop]
theorem in_yes {hd : HintA} {b : Nat} (h : inH hd b) (h32 : 0 ≤ hd.fr ∧ hd.fr ≤ 32) (hb : b ≤ 32) (w : World) : Calls Tryz.prog 160 #[.agg #[.int .i64 hd.fr, .int .i64 hd.size, .int .i64 hd.often, .bool hd.loop], .int .i64 b] w fun e w' => e = .returned (.bool true) ∧ Only Non w w' := by
  obtain ⟨fr, size, often, loop⟩ := hd
  obtain ⟨h1, h2⟩ := h
  dsimp only at h1 h2 h32 ⊢
  have e1 : IntKind.i64.wrap ((b : Int) - fr) = b - fr := IntWalk.i64_in _ (by omega)
  have h3 : (b : Int) - fr < size := by omega
  go_enter Tryz.func160, Tryz.ntmps160
  go_wp2_with fail
  go_ret
  exact ⟨rfl, (Only.refl _ _).alloc _⟩
theorem in_no {hd : HintA} {b : Nat} (h : ¬ inH hd b) (h32 : 0 ≤ hd.fr ∧ hd.fr ≤ 32) (hb : b ≤ 32) (w : World) : Calls Tryz.prog 160 #[.agg #[.int .i64 hd.fr, .int .i64 hd.size, .int .i64 hd.often, .bool hd.loop], .int .i64 b] w fun e w' => e = .returned (.bool false) ∧ Only Non w w' := by
  obtain ⟨fr, size, often, loop⟩ := hd
  unfold inH at h
  dsimp only at h h32 ⊢
  by_cases h1 : fr ≤ (b : Int)
  · have e1 : IntKind.i64.wrap ((b : Int) - fr) = b - fr := IntWalk.i64_in _ (by omega)
    have h3 : ¬ (b : Int) - fr < size := by omega
    clear h
    go_enter Tryz.func160, Tryz.ntmps160
    go_wp2_with fail
    go_ret
    exact ⟨rfl, (Only.refl _ _).alloc _⟩
  · clear h
    go_enter Tryz.func160, Tryz.ntmps160
    go_wp2_with fail
    go_ret
    exact ⟨rfl, (Only.refl _ _).alloc _⟩
def Rh1 (blocks : Int) (l : List HintA) (w : World) (i : Value) (wr : World) : Prop :=
  ∃ k : Nat, k ≤ l.length ∧ i = .int .i64 k ∧ (∀ j, j < k → okH blocks (l.getD j default)) ∧ (∀ i j, i < j → j < k → apartH (l.getD i default) (l.getD j default)) ∧ Only Non w wr
def Rh2 (l : List HintA) (k F Z hb : Nat) (w : World) (often : Int) (loop : Bool) (i : Value) (wr : World) : Prop :=
  ∃ q : Nat, q ≤ 32 ∧ i = .int .i64 q ∧ (∀ b j, b < q → j < k → ¬ (inH ⟨F, Z, often, loop⟩ b ∧ inH (l.getD j default) b)) ∧ Box wr hb 141 #[.int .i64 F, .int .i64 Z, .int .i64 often, .bool loop] ∧ Only Non w wr
def Rh3 (l : List HintA) (k q F Z hb : Nat) (w : World) (often : Int) (loop : Bool) (i : Value) (wr : World) : Prop :=
  ∃ r : Nat, r ≤ k ∧ i = .int .i64 r ∧ (∀ j, j < r → ¬ (inH ⟨F, Z, often, loop⟩ q ∧ inH (l.getD j default) q)) ∧ Box wr hb 141 #[.int .i64 F, .int .i64 Z, .int .i64 often, .bool loop] ∧ Only Non w wr
theorem Rh1.step {blocks : Int} {l : List HintA} {k F Z : Nat} {w wr : World} {often : Int} {loop : Bool} (hx : l.getD k default = ⟨F, Z, often, loop⟩)
    (hm : ∀ b j, b < 32 → j < k → ¬ (inH ⟨F, Z, often, loop⟩ b ∧ inH (l.getD j default) b)) (hok : ∀ j, j < k → okH blocks (l.getD j default)) (hap : ∀ i j, i < j → j < k → apartH (l.getD i default) (l.getD j default))
    (hok1 : okH blocks ⟨F, Z, often, loop⟩) (ho : Only Non w wr) (hlt : k < l.length) : Rh1 blocks l w (.int .i64 ((k : Int) + 1)) wr := by
  refine ⟨k + 1, hlt, by simp, fun j hj => ?_, fun i j hij hj => ?_, ho⟩
  · rcases Nat.lt_or_ge j k with hk | hk
    · exact hok j hk
    · obtain rfl : j = k := by omega
      rw [hx]; exact hok1
  · rcases Nat.lt_or_ge j k with hk | hk
    · exact hap i j hij hk
    · obtain rfl : j = k := by omega
      have h1 := hok i hij
      rw [hx]
      unfold okH at h1 hok1
      unfold apartH
      dsimp only at hok1 ⊢
      generalize hg : l.getD i default = g at *
      by_cases hgf : g.fr ≤ F
      · have := hm F i (by omega) hij
        rw [hg] at this
        unfold inH at this
        dsimp only at this
        omega
      · by_cases hc : g.fr < F + Z
        · have := hm g.fr.toNat i (by omega) hij
          rw [hg] at this
          unfold inH at this
          dsimp only at this
          omega
        · omega
theorem rhints_any (A : Option Addr) (n c : Nat) (l : List HintA) (blocks : Int) (w : World) (h : HintsAt w A n c l) (hb1 : 1 ≤ blocks) (hb2 : blocks ≤ 32) :
    Calls Tryz.prog 87 #[.slice A n c, .int .i64 blocks] w fun e w' => e = .returned (.bool (hintsB blocks l)) ∧ Only Non w w' := by
  obtain rfl := h.len
  have hcap := h.cap
  have hmax := h.max
  have H := Lib.hid h
  unfold maxLen at hmax
  clear h
  by_cases h8 : l.length ≤ 8
  rotate_left
  · have Hr := Lib.hid (hintsB_no (blocks := blocks) (l := l) fun hp => h8 hp.2.2)
    have h8b : (8 : Int) < (l.length : Int) := by omega
    go_enter Tryz.func87, Tryz.ntmps87
    go_wp2_with fail
    go_ret
    exact ⟨by rw [Hr.out]; rfl, Only.refl _ _⟩
  have h8b : ¬ (8 : Int) < (l.length : Int) := by omega
  have H8 := Lib.hid h8
  go_enter Tryz.func87, Tryz.ntmps87
  go_wp2_with fail
  clear h8 h8b
  go_loopw [5] (fun i wr => Rh1 blocks l w i wr) (fun i _ => l.length - (intOf i).toNat)
  case atStart => exact ⟨0, Nat.zero_le _, rfl, fun j hj => absurd hj (by omega), fun i j _ hj => absurd hj (by omega), Only.refl _ _⟩
  case round =>
    obtain ⟨k, hk, rfl, hok, hap, ho⟩ := hrel
    have Hok := Lib.hid hok
    have Hap := Lib.hid hap
    have Ho := Lib.hid ho
    by_cases hlt : k < l.length
    · obtain ⟨g, o, rfl, hg, x0, x1, x2, x3⟩ := (H.out.keep ho).at_ k hlt
      have Hno := Lib.hid (fun (h : ¬ okH blocks (l.getD k default)) => hintsB_no (blocks := blocks) (l := l) fun hp => h (hp.1 k hlt))
      have hltb : (k : Int) < l.length := by omega
      have Hlt := Lib.hid hlt
      clear hok hap ho
      generalize hx : l.getD k default = hd at *
      obtain ⟨fr, size, often, loop⟩ := hd
      have Hx := Lib.hid hx
      clear hx
      dsimp only at x0 x1 x2 x3
      by_cases c0 : fr < 0
      · have Hr := Lib.hid (Hno.out (fun h => by unfold okH at h; dsimp only at h; omega))
        go_wp2_with fail
        go_ret
        exact ⟨by rw [Hr.out]; rfl, Ho.out.alloc _⟩
      by_cases c1 : size < 1
      · have Hr := Lib.hid (Hno.out (fun h => by unfold okH at h; dsimp only at h; omega))
        go_wp2_with fail
        go_ret
        exact ⟨by rw [Hr.out]; rfl, Ho.out.alloc _⟩
      by_cases c2 : 32 < fr
      · have Hr := Lib.hid (Hno.out (fun h => by unfold okH at h; dsimp only at h; omega))
        go_wp2_with fail
        go_ret
        exact ⟨by rw [Hr.out]; rfl, Ho.out.alloc _⟩
      by_cases c3 : 32 < size
      · have Hr := Lib.hid (Hno.out (fun h => by unfold okH at h; dsimp only at h; omega))
        go_wp2_with fail
        go_ret
        exact ⟨by rw [Hr.out]; rfl, Ho.out.alloc _⟩
      have e1 : IntKind.i64.wrap (fr + size) = fr + size := IntWalk.i64_in _ (by omega)
      by_cases c4 : blocks < fr + size
      · have Hr := Lib.hid (Hno.out (fun h => by unfold okH at h; dsimp only at h; omega))
        go_wp2_with fail
        go_ret
        exact ⟨by rw [Hr.out]; rfl, Ho.out.alloc _⟩
      have c5 : ¬ 32 < fr + size := by omega
      by_cases c6 : often < 0
      · have Hr := Lib.hid (Hno.out (fun h => by unfold okH at h; dsimp only at h; omega))
        go_wp2_with fail
        go_ret
        exact ⟨by rw [Hr.out]; rfl, Ho.out.alloc _⟩
      by_cases c7 : 2147483647 < often
      · have Hr := Lib.hid (Hno.out (fun h => by unfold okH at h; dsimp only at h; omega))
        go_wp2_with fail
        go_ret
        exact ⟨by rw [Hr.out]; rfl, Ho.out.alloc _⟩
      have hfr : fr = ((fr.toNat : Nat) : Int) := by omega
      have hsz : size = ((size.toNat : Nat) : Int) := by omega
      generalize fr.toNat = F at *
      generalize size.toNat = Z at *
      subst hfr hsz
      have Hok1 := Lib.hid (show okH blocks ⟨(F : Int), (Z : Int), often, loop⟩ from by unfold okH; dsimp only; omega)
      have HbH := Lib.hid (Box.fresh wr 141 #[.int .i64 F, .int .i64 Z, .int .i64 often, .bool loop])
      have HoH := Lib.hid (Ho.out.alloc (.cells #[.int .i64 F, .int .i64 Z, .int .i64 often, .bool loop] 141))
      have HhB := Lib.hid (show w.heap.size ≤ wr.heap.size from Ho.out.size)
      have F32n := Lib.hid (show 0 ≤ (F : Int) ∧ (F : Int) ≤ 32 from by omega)
      go_wp2_with fail
      clear c0 c1 c2 c3 c4 c5 c6 c7 e1
      generalize wr.alloc (.cells #[.int .i64 F, .int .i64 Z, .int .i64 often, .bool loop] 141) = X at *
      generalize hhb : wr.heap.size = hb at *
      have Hhb := Lib.hid hhb
      clear hhb x0 x1 x2 x3
      go_loopw [7] (fun i wr => Rh2 l k F Z hb w often loop i wr) (fun i _ => 32 - (intOf i).toNat)
      case atStart => exact ⟨0, Nat.zero_le _, rfl, fun b j h => absurd h (Nat.not_lt_zero _), HbH.out, HoH.out⟩
      case round =>
        obtain ⟨q, hq, rfl, hm2, hbx, ho2⟩ := hrel
        have Hm2 := Lib.hid hm2
        have Hbx2 := Lib.hid hbx
        have Ho2 := Lib.hid ho2
        clear hm2 hbx ho2
        by_cases hqz : q < 32
        · have hqi : (q : Int) < 32 := by omega
          go_wp2_with fail
          go_loopw [8] (fun i wr => Rh3 l k q F Z hb w often loop i wr) (fun i _ => k - (intOf i).toNat)
          case atStart => exact ⟨0, Nat.zero_le _, rfl, fun j h => absurd h (Nat.not_lt_zero _), Hbx2.out, Ho2.out⟩
          case round =>
            obtain ⟨r, hr, rfl, hm3, hbx, ho3⟩ := hrel
            have Hm3 := Lib.hid hm3
            have Hbx := Lib.hid hbx
            have Ho3 := Lib.hid ho3
            by_cases hrk : r < k
            · have y0 : wr.cell? ⟨hb, 0, none⟩ = some (.int .i64 F) := hbx.cellAt rfl
              have y1 : wr.cell? ⟨hb, 1, none⟩ = some (.int .i64 Z) := hbx.cellAt rfl
              have y2 : wr.cell? ⟨hb, 2, none⟩ = some (.int .i64 often) := hbx.cellAt rfl
              have y3 : wr.cell? ⟨hb, 3, none⟩ = some (.bool loop) := hbx.cellAt rfl
              have hrki : (r : Int) < k := by omega
              have hrl : (r : Int) < l.length := by omega
              clear hm3 hbx ho3
              by_cases hin : inH ⟨(F : Int), (Z : Int), often, loop⟩ q
              · have HI1 := Lib.hid (fun w => in_yes (hd := ⟨(F : Int), (Z : Int), often, loop⟩) hin F32n.out (by omega : q ≤ 32) w)
                have Hin := Lib.hid hin
                clear hin
                go_wp2_with fail
                refine (HI1.out _).mono ?_
                rintro e w5 ⟨rfl, ho5⟩
                have Ho5 := Lib.hid (Ho3.out.transN ho5)
                have Hbx5 := Lib.hid (ho5.box Hbx.out id)
                clear ho5
                obtain ⟨g2, o2, hA2, hg2, z0, z1, z2, z3⟩ := (H.out.keep Ho5.out).at_ r (by omega)
                injection hA2 with hA2
                injection hA2 with hg hoo hss
                subst hg hoo
                have HokR := Lib.hid (Hok.out r hrk)
                generalize hxr : l.getD r default = hr2 at *
                obtain ⟨fr2, size2, often2, loop2⟩ := hr2
                have Hxr := Lib.hid hxr
                clear hxr
                dsimp only at z0 z1 z2 z3
                have f2 : 0 ≤ fr2 ∧ fr2 ≤ 32 := by have := HokR.out; unfold okH at this; dsimp only at this; omega
                have F2n := Lib.hid f2
                clear f2
                by_cases hin2 : inH ⟨fr2, size2, often2, loop2⟩ q
                · have HI2 := Lib.hid (fun w => in_yes (hd := ⟨fr2, size2, often2, loop2⟩) hin2 F2n.out (by omega : q ≤ 32) w)
                  have Hr := Lib.hid (hintsB_no (blocks := blocks) (l := l) fun hp => by
                    have := hp.2.1 r k hrk Hlt.out
                    rw [Hx.out, Hxr.out] at this
                    have h1 := Hin.out
                    have h2 := hin2
                    unfold apartH at this
                    unfold inH at h1 h2
                    dsimp only at this h1 h2
                    omega)
                  clear hin2
                  go_wp2_with fail
                  refine (HI2.out _).mono ?_
                  rintro e w6 ⟨rfl, ho6⟩
                  have Ho6 := Lib.hid (Ho5.out.transN ho6)
                  clear ho6
                  go_wp2_with fail
                  go_ret
                  exact ⟨by rw [Hr.out]; rfl, Ho6.out⟩
                · have HI2 := Lib.hid (fun w => in_no (hd := ⟨fr2, size2, often2, loop2⟩) hin2 F2n.out (by omega : q ≤ 32) w)
                  have HN := Lib.hid hin2
                  clear hin2
                  go_wp2_with fail
                  refine (HI2.out _).mono ?_
                  rintro e w6 ⟨rfl, ho6⟩
                  have Ho6 := Lib.hid (Ho5.out.transN ho6)
                  have Hbx6 := Lib.hid (ho6.box Hbx5.out id)
                  clear ho6
                  go_wp2_with fail
                  have HR := Lib.hid (show Rh3 l k q F Z hb w often loop (.int .i64 ((r : Int) + 1)) w6 from ⟨r + 1, hrk, by simp, fun j hj => by
                    rcases Nat.lt_or_ge j r with h | h
                    · exact Hm3.out j h
                    · obtain rfl : j = r := by omega
                      rw [Hxr.out]; exact fun h => HN.out h.2, Hbx6.out, Ho6.out⟩)
                  refine ⟨?_, ?_⟩
                  · (repeat first | exact ⟨HR.out, rfl⟩ | exact HR.out | apply Exists.intro)
                  · simp [intOf]; omega
              · have HI1 := Lib.hid (fun w => in_no (hd := ⟨(F : Int), (Z : Int), often, loop⟩) hin F32n.out (by omega : q ≤ 32) w)
                have HN := Lib.hid hin
                clear hin
                go_wp2_with fail
                refine (HI1.out _).mono ?_
                rintro e w6 ⟨rfl, ho6⟩
                have Ho6 := Lib.hid (Ho3.out.transN ho6)
                have Hbx6 := Lib.hid (ho6.box Hbx.out id)
                clear ho6
                go_wp2_with fail
                have HR := Lib.hid (show Rh3 l k q F Z hb w often loop (.int .i64 ((r : Int) + 1)) w6 from ⟨r + 1, hrk, by simp, fun j hj h => HN.out h.1, Hbx6.out, Ho6.out⟩)
                refine ⟨?_, ?_⟩
                · (repeat first | exact ⟨HR.out, rfl⟩ | exact HR.out | apply Exists.intro)
                · simp [intOf]; omega
            · obtain rfl : r = k := by omega
              clear hm3 hbx ho3
              go_wp2_with fail
              have HR := Lib.hid (show Rh2 l r F Z hb w often loop (.int .i64 ((q : Int) + 1)) wr from ⟨q + 1, hqz, by simp, fun b j hb hj => by
                rcases Nat.lt_or_ge b q with h | h
                · exact Hm2.out b j h hj
                · obtain rfl : b = q := by omega
                  exact Hm3.out j hj, Hbx.out, Ho3.out⟩)
              refine ⟨?_, ?_⟩
              · (repeat first | exact ⟨HR.out, rfl⟩ | exact HR.out | apply Exists.intro)
              · simp [intOf]; omega
        · obtain rfl : q = 32 := by omega
          go_wp2_with fail
          have HR := Lib.hid (show Rh1 blocks l w (.int .i64 ((k : Int) + 1)) wr from Rh1.step Hx.out Hm2.out Hok.out Hap.out Hok1.out Ho2.out Hlt.out)
          refine ⟨?_, ?_⟩
          · (repeat first | exact ⟨HR.out, rfl⟩ | exact HR.out | apply Exists.intro)
          · simp [intOf]; omega
    · have hkn : k = l.length := by omega
      have Hr := Lib.hid (hintsB_yes (blocks := blocks) (l := l) ⟨fun i hi => Hok.out i (by omega), fun i j hij hj => Hap.out i j hij (by omega), H8.out⟩)
      clear hok hap ho
      clear hkn
      go_wp2_with fail
      go_ret
      exact ⟨by rw [Hr.out]; rfl, Ho.out⟩
end
end Go.Proofs.YtodephhlhdbeoaaGreat
