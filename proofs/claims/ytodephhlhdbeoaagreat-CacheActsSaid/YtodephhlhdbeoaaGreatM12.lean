/- Several texts, one behind the other: Spc. -/
import Derived.Test.YtodephhlhdbeoaaGreatM4
import Derived.Test.YtodephhlhdbeoaaGreatM11
import Derived.Test.YtodephhlhdbeoaaGreatChecked
import Derived.Deep.CutRange
namespace Go.Proofs.YtodephhlhdbeoaaGreat
open Go.RowKit Go.ChangeShapes Go.WideShapes
set_option linter.unusedVariables false
set_option linter.unusedSimpArgs false
def fldN (n : Nd) : Nat → Value
  | 0 => .int .i64 n.l
  | 1 => .int .i64 n.a
  | _ => .int .i64 n.b
def fldE (n : En) : Nat → Value
  | 0 => .int .i64 n.f
  | 1 => .int .i64 n.k
  | _ => .int .i64 n.m
def spC (N : Int → Nd) (h : Value) : Array Value := Array.ofFn (n := 193) fun i => if i.1 = 192 then h else fldN (N ((i.1 / 3 : Nat) : Int)) (i.1 % 3)
def enC (m : Nat) (E : Nat → En) : Array Value := Array.ofFn (n := m * 3) fun i => fldE (E (i.1 / 3)) (i.1 % 3)
theorem spC_size (N : Int → Nd) (h : Value) : (spC N h).size = 193 := by simp [spC]
theorem spC_at (N : Int → Nd) (h : Value) {b j : Nat} (hb : b < 64) (hj : j < 3) : (spC N h)[b * 3 + j]? = some (fldN (N b) j) := by
  have h1 : b * 3 + j < 193 := by omega
  have h2 : (b * 3 + j) / 3 = b := by omega
  have h3 : (b * 3 + j) % 3 = j := by omega
  have h4 : b * 3 + j ≠ 192 := by omega
  simp only [spC, Array.getElem?_ofFn, h1, dite_true, h4, if_false, h2, h3]
theorem spC_hd (N : Int → Nd) (h : Value) : (spC N h)[192]? = some h := by simp [spC]
theorem spC_set (N : Int → Nd) (h v : Value) {b j : Nat} (hb : b < 64) (hj : j < 3) (n : Nd) (hv : ∀ i, i < 3 → fldN n i = if i = j then v else fldN (N b) i) : (spC N h).setIfInBounds (b * 3 + j) v = spC (updI N b n) h := by
  refine Array.ext (by simp [spC]) fun i h1 h2 => ?_
  have hi : i < 193 := by simpa [spC] using h2
  rw [Array.getElem_setIfInBounds (by simpa [spC] using hi)]
  simp only [spC, Array.getElem_ofFn]
  by_cases e : b * 3 + j = i
  · subst e
    have h3 : (b * 3 + j) / 3 = b := by omega
    have h4 : (b * 3 + j) % 3 = j := by omega
    have h5 : b * 3 + j ≠ 192 := by omega
    rw [if_pos rfl, if_neg h5, h3, h4, show updI N b n b = n by simp [updI], hv j hj, if_pos rfl]
  · rw [if_neg e]
    split
    · rfl
    · by_cases e2 : i / 3 = b
      · have h4 : i % 3 ≠ j := by omega
        rw [e2, show updI N b n b = n by simp [updI], hv (i % 3) (Nat.mod_lt _ (by decide)), if_neg h4]
      · rw [show updI N b n ((i / 3 : Nat) : Int) = N ((i / 3 : Nat) : Int) by unfold updI; rw [if_neg (by omega)]]
theorem enC_size (m : Nat) (E : Nat → En) : (enC m E).size = m * 3 := by simp [enC]
theorem enC_at (m : Nat) (E : Nat → En) {b j : Nat} (hb : b < m) (hj : j < 3) : (enC m E)[b * 3 + j]? = some (fldE (E b) j) := by
  have h1 : b * 3 + j < m * 3 := by omega
  have h2 : (b * 3 + j) / 3 = b := by omega
  have h3 : (b * 3 + j) % 3 = j := by omega
  simp [enC, h1, h2, h3]
theorem enC_set (m : Nat) (E : Nat → En) (v : Value) {b j : Nat} (hb : b < m) (hj : j < 3) (n : En) (hv : ∀ i, i < 3 → fldE n i = if i = j then v else fldE (E b) i) : (enC m E).setIfInBounds (b * 3 + j) v = enC m (updN E b n) := by
  refine Array.ext (by simp [enC]) fun i h1 h2 => ?_
  have hi : i < m * 3 := by simpa [enC] using h2
  rw [Array.getElem_setIfInBounds (by simpa [enC] using hi)]
  simp only [enC, Array.getElem_ofFn]
  by_cases e : b * 3 + j = i
  · subst e
    have h3 : (b * 3 + j) / 3 = b := by omega
    have h4 : (b * 3 + j) % 3 = j := by omega
    rw [if_pos rfl, h3, h4, show updN E b n b = n by simp [updN], hv j hj, if_pos rfl]
  · rw [if_neg e]
    by_cases e2 : i / 3 = b
    · have h4 : i % 3 ≠ j := by omega
      rw [e2, show updN E b n b = n by simp [updN], hv (i % 3) (Nat.mod_lt _ (by decide)), if_neg h4]
    · rw [show updN E b n (i / 3) = E (i / 3) by unfold updN; rw [if_neg e2]]
def SpM (w : World) (g eb m : Nat) (N : Int → Nd) (E : Nat → En) : Prop := Box w g 334 (spC N (.slice (some ⟨eb, 0, none⟩) m m)) ∧ Box w eb 336 (enC m E)
def SpB (w : World) (g eb m : Nat) (S : Nat → List Int) : Prop := ∃ N E, SpM w g eb m N E ∧ Rep m N E S ∧ 0 < m ∧ m ≤ 40
section
variable {w w' : World} {g eb m : Nat} {N : Int → Nd} {E : Nat → En} {S : Nat → List Int}
theorem SpM.node (h : SpM w g eb m N E) {b j : Nat} (hb : b < 64) (hj : j < 3) : w.cell? ⟨g, b * 3 + j, none⟩ = some (fldN (N b) j) := h.1.cellAt (spC_at N _ hb hj)
theorem SpM.hd (h : SpM w g eb m N E) : w.cell? ⟨g, 192, none⟩ = some (.slice (some ⟨eb, 0, none⟩) m m) := h.1.cellAt (spC_hd N _)
theorem SpM.end_ (h : SpM w g eb m N E) {b j : Nat} (hb : b < m) (hj : j < 3) : w.cell? ⟨eb, b * 3 + j, none⟩ = some (fldE (E b) j) := h.2.cellAt (enC_at m E hb hj)
theorem SpM.ne (h : SpM w g eb m N E) : g ≠ eb := h.1.off h.2 (by decide)
theorem SpM.only {F : Nat → Prop} (h : SpM w g eb m N E) (ho : Only F w w') (h1 : ¬ F g) (h2 : ¬ F eb) : SpM w' g eb m N E := ⟨ho.box h.1 h1, ho.box h.2 h2⟩
theorem SpB.only {F : Nat → Prop} (h : SpB w g eb m S) (ho : Only F w w') (h1 : ¬ F g) (h2 : ¬ F eb) : SpB w' g eb m S := by
  obtain ⟨N, E, h3, h4⟩ := h
  exact ⟨N, E, h3.only ho h1 h2, h4⟩
theorem SpB.keep (h : SpB w g eb m S) (ho : Only Non w w') : SpB w' g eb m S := h.only ho id id
theorem SpM.setN (h : SpM w g eb m N E) {b j : Nat} (hb : b < 64) (hj : j < 3) (v : Value) (n : Nd) (hv : ∀ i, i < 3 → fldN n i = if i = j then v else fldN (N b) i) : SpM (w.setCell ⟨g, b * 3 + j, none⟩ v) g eb m (updI N b n) E :=
  ⟨by rw [← spC_set N _ v hb hj n hv]; exact h.1.store _ _, h.2.far (fun e => h.ne (show g = eb from e.symm)) _⟩
theorem SpM.setE (h : SpM w g eb m N E) {b j : Nat} (hb : b < m) (hj : j < 3) (v : Value) (n : En) (hv : ∀ i, i < 3 → fldE n i = if i = j then v else fldE (E b) i) : SpM (w.setCell ⟨eb, b * 3 + j, none⟩ v) g eb m N (updN E b n) :=
  ⟨h.1.far (fun e => h.ne (show g = eb from e)) _, by rw [← enC_set m E v hb hj n hv]; exact h.2.store _ _⟩
end
section
set_option maxHeartbeats 4000000
set_option maxRecDepth 100000
theorem block_any (g : Nat) (b : Int) (w : World) : Calls Tryz.prog 297 #[.pointer (some ⟨g, 0, none⟩), .int .i64 b] w fun e w' => e = .returned (.bool (decide (0 ≤ b) && decide (b < 64))) ∧ w = w' := by
  by_cases h1 : 0 ≤ b
  · have hb1 : decide (0 ≤ b) = true := by simp [h1]
    by_cases h2 : b < 64
    · have hb2 : decide (b < 64) = true := by simp [h2]
      rw [hb1, hb2]
      clear hb1 hb2
      go_enter Tryz.func297, Tryz.ntmps297
      go_wp2
      go_ret
      exact ⟨rfl, rfl⟩
    · have hb2 : decide (b < 64) = false := by simp [h2]
      rw [hb1, hb2]
      clear hb1 hb2
      go_enter Tryz.func297, Tryz.ntmps297
      go_wp2
      go_ret
      exact ⟨rfl, rfl⟩
  · have hb1 : decide (0 ≤ b) = false := by simp [h1]
    rw [hb1]
    clear hb1
    go_enter Tryz.func297, Tryz.ntmps297
    go_wp2
    go_ret
    exact ⟨rfl, rfl⟩
theorem list_any {g eb m : Nat} {S : Nat → List Int} (l : Int) (w : World) (h : SpB w g eb m S) : Calls Tryz.prog 296 #[.pointer (some ⟨g, 0, none⟩), .int .i64 l] w fun e w' => e = .returned (.bool (decide (0 ≤ l) && decide (l < m))) ∧ w = w' := by
  obtain ⟨N, E, hm, _⟩ := h
  have hh := hm.hd
  clear hm
  by_cases h1 : 0 ≤ l
  · have hb1 : decide (0 ≤ l) = true := by simp [h1]
    by_cases h2 : l < m
    · have hb2 : decide (l < (m : Int)) = true := by simp [h2]
      rw [hb1, hb2]
      clear hb1 hb2
      go_enter Tryz.func296, Tryz.ntmps296
      go_wp2
      go_ret
      exact ⟨rfl, rfl⟩
    · have hb2 : decide (l < (m : Int)) = false := by simp [h2]
      rw [hb1, hb2]
      clear hb1 hb2
      go_enter Tryz.func296, Tryz.ntmps296
      go_wp2
      go_ret
      exact ⟨rfl, rfl⟩
  · have hb1 : decide (0 ≤ l) = false := by simp [h1]
    rw [hb1]
    clear hb1
    go_enter Tryz.func296, Tryz.ntmps296
    go_wp2
    go_ret
    exact ⟨rfl, rfl⟩
theorem of_in {g eb m : Nat} {S : Nat → List Int} {i : Nat} {b : Int} (w : World) (h : SpB w g eb m S) (hb : b ∈ S i) : Calls Tryz.prog 295 #[.pointer (some ⟨g, 0, none⟩), .int .i64 b] w fun e w' => e = .returned (.tuple #[.int .i64 i, .bool true]) ∧ w = w' := by
  obtain ⟨N, E, hm, hr, _⟩ := h
  obtain ⟨h0, h1⟩ := hr.rng hb
  obtain ⟨n, rfl⟩ := Int.eq_ofNat_of_zero_le h0
  have hn : n < 64 := by omega
  have hc := hm.node (b := n) (j := 0) hn (by decide)
  rw [hr.in_ hb] at hc
  replace hc : w.cell? ⟨g, n * 3, none⟩ = some (.int .i64 i) := hc
  have hbl := block_any g n w
  rw [show (decide (0 ≤ (n : Int)) && decide ((n : Int) < 64)) = true by simp; omega] at hbl
  clear hm hr hb h0
  go_enter Tryz.func295, Tryz.ntmps295
  go_wp2
  go_ret2
  exact ⟨rfl, rfl⟩
theorem of_no {g eb m : Nat} {S : Nat → List Int} {b : Int} (w : World) (h : SpB w g eb m S) (hb : ∀ i, b ∉ S i) : Calls Tryz.prog 295 #[.pointer (some ⟨g, 0, none⟩), .int .i64 b] w fun e w' => e = .returned (.tuple #[.int .i64 0, .bool false]) ∧ w = w' := by
  obtain ⟨N, E, hm, hr, _⟩ := h
  by_cases h0 : 0 ≤ b
  · by_cases h1 : b < 64
    · have hl := hr.no h0 h1 hb
      obtain ⟨n, rfl⟩ := Int.eq_ofNat_of_zero_le h0
      have hn : n < 64 := by omega
      have hc := hm.node (b := n) (j := 0) hn (by decide)
      replace hc : w.cell? ⟨g, n * 3, none⟩ = some (.int .i64 (N n).l) := hc
      rw [hl] at hc
      clear hm hr hb h0 hl
      go_enter Tryz.func295, Tryz.ntmps295
      go_wp2
      go_ret2
      exact ⟨rfl, rfl⟩
    · clear hm hr hb
      go_enter Tryz.func295, Tryz.ntmps295
      go_wp2
      go_ret2
      exact ⟨rfl, rfl⟩
  · clear hm hr hb
    go_enter Tryz.func295, Tryz.ntmps295
    go_wp2
    go_ret2
    exact ⟨rfl, rfl⟩
theorem len_any {g eb m : Nat} {S : Nat → List Int} (i : Nat) (w : World) (h : SpB w g eb m S) (hi : i < m) : Calls Tryz.prog 343 #[.pointer (some ⟨g, 0, none⟩), .int .i64 i] w fun e w' => e = .returned (.int .i64 (S i).length) ∧ w = w' := by
  have hl := list_any i w h
  obtain ⟨N, E, hm, hr, _⟩ := h
  have hh := hm.hd
  have hc := hm.end_ (b := i) (j := 2) hi (by decide)
  rw [hr.ends i hi] at hc
  replace hc : w.cell? ⟨eb, i * 3 + 2, none⟩ = some (.int .i64 (S i).length) := hc
  rw [show (decide (0 ≤ (i : Int)) && decide ((i : Int) < m)) = true by simp; omega] at hl
  have hik : (i : Int) < m := by omega
  generalize (S i).length = k at *
  clear hm hr
  go_enter Tryz.func343, Tryz.ntmps343
  go_wp2
  go_ret
  exact ⟨rfl, rfl⟩
theorem last_any {g eb m : Nat} {S : Nat → List Int} (i : Nat) (w : World) (h : SpB w g eb m S) (hi : i < m) : Calls Tryz.prog 275 #[.pointer (some ⟨g, 0, none⟩), .int .i64 i] w fun e w' => e = .returned (if S i = [] then .tuple #[.int .i64 0, .bool false] else .tuple #[.int .i64 (lst (S i)), .bool true]) ∧ w = w' := by
  have hl := list_any i w h
  obtain ⟨N, E, hm, hr, _⟩ := h
  have hh := hm.hd
  have hc := hm.end_ (b := i) (j := 2) hi (by decide)
  have hd := hm.end_ (b := i) (j := 1) hi (by decide)
  rw [hr.ends i hi] at hc hd
  replace hc : w.cell? ⟨eb, i * 3 + 2, none⟩ = some (.int .i64 (S i).length) := hc
  replace hd : w.cell? ⟨eb, i * 3 + 1, none⟩ = some (.int .i64 (lst (S i))) := hd
  rw [show (decide (0 ≤ (i : Int)) && decide ((i : Int) < m)) = true by simp; omega] at hl
  have hik : (i : Int) < m := by omega
  generalize hL : S i = L at *
  clear hL hm hr
  cases L with
  | nil =>
    clear hd
    rw [if_pos rfl]
    replace hc : w.cell? ⟨eb, i * 3 + 2, none⟩ = some (.int .i64 0) := hc
    go_enter Tryz.func275, Tryz.ntmps275
    go_wp2
    go_ret2
    exact ⟨rfl, rfl⟩
  | cons a L =>
    rw [if_neg (by simp)]
    generalize lst (a :: L) = x at *
    rw [List.length_cons] at hc
    have hk : ((L.length + 1 : Nat) : Int) ≠ 0 := by omega
    generalize L.length + 1 = k at *
    go_enter Tryz.func275, Tryz.ntmps275
    go_wp2
    go_ret2
    exact ⟨rfl, rfl⟩
theorem first_any {g eb m : Nat} {S : Nat → List Int} (i : Nat) (w : World) (h : SpB w g eb m S) (hi : i < m) : Calls Tryz.prog 346 #[.pointer (some ⟨g, 0, none⟩), .int .i64 i] w fun e w' => e = .returned (if S i = [] then .tuple #[.int .i64 0, .bool false] else .tuple #[.int .i64 (hd (S i)), .bool true]) ∧ w = w' := by
  have hl := list_any i w h
  obtain ⟨N, E, hm, hr, _⟩ := h
  have hh := hm.hd
  have hc := hm.end_ (b := i) (j := 2) hi (by decide)
  have hd := hm.end_ (b := i) (j := 0) hi (by decide)
  rw [hr.ends i hi] at hc hd
  replace hc : w.cell? ⟨eb, i * 3 + 2, none⟩ = some (.int .i64 (S i).length) := hc
  replace hd : w.cell? ⟨eb, i * 3, none⟩ = some (.int .i64 (Go.Proofs.YtodephhlhdbeoaaGreat.hd (S i))) := hd
  rw [show (decide (0 ≤ (i : Int)) && decide ((i : Int) < m)) = true by simp; omega] at hl
  have hik : (i : Int) < m := by omega
  generalize hL : S i = L at *
  clear hL hm hr
  cases L with
  | nil =>
    clear hd
    rw [if_pos rfl]
    replace hc : w.cell? ⟨eb, i * 3 + 2, none⟩ = some (.int .i64 0) := hc
    go_enter Tryz.func346, Tryz.ntmps346
    go_wp2
    go_ret2
    exact ⟨rfl, rfl⟩
  | cons a L =>
    rw [if_neg (by simp)]
    generalize Go.Proofs.YtodephhlhdbeoaaGreat.hd (a :: L) = x at *
    rw [List.length_cons] at hc
    have hk : ((L.length + 1 : Nat) : Int) ≠ 0 := by omega
    generalize L.length + 1 = k at *
    go_enter Tryz.func346, Tryz.ntmps346
    go_wp2
    go_ret2
    exact ⟨rfl, rfl⟩
end
end Go.Proofs.YtodephhlhdbeoaaGreat
