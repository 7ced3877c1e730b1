/- Several texts, one behind the other: MqA. -/
import Derived.Test.YtodephhlhdbeoaaGreatM16
import Derived.Test.YtodephhlhdbeoaaGreatM19
namespace Go.Proofs.YtodephhlhdbeoaaGreat
open Go.RowKit Go.ChangeShapes Go.WideShapes
set_option linter.unusedVariables false
set_option linter.unusedSimpArgs false
def mqF (g : Nat) (P : MqP) (s : MqS) (i : Nat) : Value :=
  if i = 0 then .pointer (some ⟨g, 0, none⟩) else if i = 1 then .int .i64 P.cap else if i = 2 then .int .i64 P.q else if i = 3 then .int .i64 P.life
  else if i = 4 then .int .i64 P.ghost else if i = 5 then .int .i64 s.now else if i < 70 then .int .i64 (s.often ((i - 6 : Nat) : Int)) else .int .i64 (s.exp ((i - 70 : Nat) : Int))
def mqC (g : Nat) (P : MqP) (s : MqS) : Array Value := Array.ofFn (n := 134) fun i => mqF g P s i.1
theorem mqC_at (g : Nat) (P : MqP) (s : MqS) {i : Nat} (hi : i < 134) : (mqC g P s)[i]? = some (mqF g P s i) := by
  simp only [mqC, Array.getElem?_ofFn, hi, dite_true]
theorem mqC_set (g : Nat) (P : MqP) (s s' : MqS) (v : Value) {i : Nat} (hv : ∀ j, j < 134 → mqF g P s' j = if j = i then v else mqF g P s j) : (mqC g P s).setIfInBounds i v = mqC g P s' := by
  refine Array.ext (by simp [mqC]) fun j h1 h2 => ?_
  have hj : j < 134 := by simpa [mqC] using h2
  rw [Array.getElem_setIfInBounds (by simpa [mqC] using hj)]
  simp only [mqC, Array.getElem_ofFn]
  rw [hv j hj]
  by_cases e : i = j
  · subst e; simp
  · rw [if_neg e, if_neg (fun h => e h.symm)]
theorem mqF_often (g : Nat) (P : MqP) (s : MqS) {n : Nat} (h : n < 64) : mqF g P s (6 + n) = .int .i64 (s.often n) := by
  unfold mqF
  rw [if_neg (by omega), if_neg (by omega), if_neg (by omega), if_neg (by omega), if_neg (by omega), if_neg (by omega), if_pos (by omega), show 6 + n - 6 = n by omega]
theorem mqF_exp (g : Nat) (P : MqP) (s : MqS) (n : Nat) : mqF g P s (70 + n) = .int .i64 (s.exp n) := by
  unfold mqF
  rw [if_neg (by omega), if_neg (by omega), if_neg (by omega), if_neg (by omega), if_neg (by omega), if_neg (by omega), if_neg (by omega), show 70 + n - 70 = n by omega]
def MqM (w : World) (p g : Nat) (P : MqP) (s : MqS) : Prop := Box w p 317 (mqC g P s)
section
variable {w w' : World} {p g eb : Nat} {P : MqP} {s : MqS}
theorem MqM.ptr (h : MqM w p g P s) : w.cell? ⟨p, 0, none⟩ = some (.pointer (some ⟨g, 0, none⟩)) := h.cellAt (mqC_at g P s (by decide))
theorem MqM.cap (h : MqM w p g P s) : w.cell? ⟨p, 1, none⟩ = some (.int .i64 P.cap) := h.cellAt (mqC_at g P s (by decide))
theorem MqM.q (h : MqM w p g P s) : w.cell? ⟨p, 2, none⟩ = some (.int .i64 P.q) := h.cellAt (mqC_at g P s (by decide))
theorem MqM.life (h : MqM w p g P s) : w.cell? ⟨p, 3, none⟩ = some (.int .i64 P.life) := h.cellAt (mqC_at g P s (by decide))
theorem MqM.ghost (h : MqM w p g P s) : w.cell? ⟨p, 4, none⟩ = some (.int .i64 P.ghost) := h.cellAt (mqC_at g P s (by decide))
theorem MqM.now (h : MqM w p g P s) : w.cell? ⟨p, 5, none⟩ = some (.int .i64 s.now) := h.cellAt (mqC_at g P s (by decide))
theorem MqM.often (h : MqM w p g P s) {n : Nat} (hn : n < 64) : w.cell? ⟨p, 6 + n, none⟩ = some (.int .i64 (s.often n)) := h.cellAt ((mqC_at g P s (by omega)).trans (congrArg some (mqF_often g P s hn)))
theorem MqM.exp (h : MqM w p g P s) {n : Nat} (hn : n < 64) : w.cell? ⟨p, 70 + n, none⟩ = some (.int .i64 (s.exp n)) := h.cellAt ((mqC_at g P s (by omega)).trans (congrArg some (mqF_exp g P s n)))
theorem MqM.setNow (h : MqM w p g P s) (x : Int) : MqM (w.setCell ⟨p, 5, none⟩ (.int .i64 x)) p g P { s with now := x } := by
  unfold MqM
  rw [← mqC_set g P s { s with now := x } (.int .i64 x) (i := 5) fun j hj => ?_]
  · exact h.store _ _
  · by_cases e : j = 5
    · subst e; rfl
    · rw [if_neg e]; unfold mqF; rw [if_neg e, if_neg e]
theorem MqM.setOften (h : MqM w p g P s) {n : Nat} (hn : n < 64) (x : Int) : MqM (w.setCell ⟨p, 6 + n, none⟩ (.int .i64 x)) p g P { s with often := updI s.often n x } := by
  unfold MqM
  rw [← mqC_set g P s { s with often := updI s.often n x } (.int .i64 x) (i := 6 + n) fun j hj => ?_]
  · exact h.store _ _
  · by_cases e : j = 6 + n
    · subst e
      rw [if_pos rfl, mqF_often g P _ hn]
      show Value.int .i64 (updI s.often n x n) = _
      unfold updI
      rw [if_pos rfl]
    · rw [if_neg e]
      unfold mqF
      by_cases e2 : 6 ≤ j ∧ j < 70
      · rw [if_neg (by omega), if_neg (by omega), if_neg (by omega), if_neg (by omega), if_neg (by omega), if_neg (by omega), if_pos (by omega), if_neg (by omega), if_neg (by omega), if_neg (by omega), if_neg (by omega), if_neg (by omega), if_neg (by omega), if_pos (by omega)]
        show Value.int .i64 (updI s.often n x ((j - 6 : Nat) : Int)) = _
        unfold updI
        rw [if_neg (by omega)]
      · by_cases e3 : j < 6
        · have : j = 0 ∨ j = 1 ∨ j = 2 ∨ j = 3 ∨ j = 4 ∨ j = 5 := by omega
          rcases this with rfl | rfl | rfl | rfl | rfl | rfl <;> rfl
        · rw [if_neg (by omega), if_neg (by omega), if_neg (by omega), if_neg (by omega), if_neg (by omega), if_neg (by omega), if_neg (by omega), if_neg (by omega), if_neg (by omega), if_neg (by omega), if_neg (by omega), if_neg (by omega), if_neg (by omega), if_neg (by omega)]
theorem MqM.setExp (h : MqM w p g P s) {n : Nat} (hn : n < 64) (x : Int) : MqM (w.setCell ⟨p, 70 + n, none⟩ (.int .i64 x)) p g P { s with exp := updI s.exp n x } := by
  unfold MqM
  rw [← mqC_set g P s { s with exp := updI s.exp n x } (.int .i64 x) (i := 70 + n) fun j hj => ?_]
  · exact h.store _ _
  · by_cases e : j = 70 + n
    · subst e
      rw [if_pos rfl, mqF_exp g P _ n]
      show Value.int .i64 (updI s.exp n x n) = _
      unfold updI
      rw [if_pos rfl]
    · rw [if_neg e]
      unfold mqF
      by_cases e2 : 70 ≤ j
      · rw [if_neg (by omega), if_neg (by omega), if_neg (by omega), if_neg (by omega), if_neg (by omega), if_neg (by omega), if_neg (by omega), if_neg (by omega), if_neg (by omega), if_neg (by omega), if_neg (by omega), if_neg (by omega), if_neg (by omega), if_neg (by omega)]
        show Value.int .i64 (updI s.exp n x ((j - 70 : Nat) : Int)) = _
        unfold updI
        rw [if_neg (by omega)]
      · by_cases e3 : j < 6
        · have : j = 0 ∨ j = 1 ∨ j = 2 ∨ j = 3 ∨ j = 4 ∨ j = 5 := by omega
          rcases this with rfl | rfl | rfl | rfl | rfl | rfl <;> rfl
        · rw [if_neg (by omega), if_neg (by omega), if_neg (by omega), if_neg (by omega), if_neg (by omega), if_neg (by omega), if_pos (by omega), if_neg (by omega), if_neg (by omega), if_neg (by omega), if_neg (by omega), if_neg (by omega), if_neg (by omega), if_pos (by omega)]
theorem MqM.lists (h : MqM w p g P s) (S : Nat → List Int) : MqM w p g P { s with S := S } := h
theorem MqM.only {F : Nat → Prop} (h : MqM w p g P s) (ho : Only F w w') (h1 : ¬ F p) : MqM w' p g P s := ho.box h h1
end
structure MqB (w : World) (p g eb : Nat) (P : MqP) (s : MqS) : Prop where
  m : MqM w p g P s
  sp : SpB w g eb (P.q + 1) s.S
section
variable {w w' : World} {p g eb : Nat} {P : MqP} {s : MqS}
theorem MqB.off (h : MqB w p g eb P s) : p ≠ g ∧ p ≠ eb := h.sp.off h.m (by decide) (by decide)
theorem MqB.only {F : Nat → Prop} (h : MqB w p g eb P s) (ho : Only F w w') (h1 : ¬ F p) (h2 : ¬ F g) (h3 : ¬ F eb) : MqB w' p g eb P s := ⟨h.m.only ho h1, h.sp.only ho h2 h3⟩
theorem MqB.step {S' : Nat → List Int} (h : MqB w p g eb P s) (ho : Only (Two g eb) w w') (hs : SpB w' g eb (P.q + 1) S') : MqB w' p g eb P { s with S := S' } := by
  obtain ⟨h1, h2⟩ := h.off
  exact ⟨(h.m.only ho (fun e => e.elim h1 h2)).lists S', hs⟩
theorem MqB.setNow (h : MqB w p g eb P s) (x : Int) : MqB (w.setCell ⟨p, 5, none⟩ (.int .i64 x)) p g eb P { s with now := x } :=
  ⟨h.m.setNow x, h.sp.only (F := Just p) (Only.setCell (p := ⟨p, _, none⟩) (Only.refl (Just p) _) (.inl (show Just p p from rfl)) _) (fun e => h.off.1 e.symm) (fun e => h.off.2 e.symm)⟩
theorem MqB.setOften (h : MqB w p g eb P s) {n : Nat} (hn : n < 64) (x : Int) : MqB (w.setCell ⟨p, 6 + n, none⟩ (.int .i64 x)) p g eb P { s with often := updI s.often n x } :=
  ⟨h.m.setOften hn x, h.sp.only (F := Just p) (Only.setCell (p := ⟨p, _, none⟩) (Only.refl (Just p) _) (.inl (show Just p p from rfl)) _) (fun e => h.off.1 e.symm) (fun e => h.off.2 e.symm)⟩
theorem MqB.setExp (h : MqB w p g eb P s) {n : Nat} (hn : n < 64) (x : Int) : MqB (w.setCell ⟨p, 70 + n, none⟩ (.int .i64 x)) p g eb P { s with exp := updI s.exp n x } :=
  ⟨h.m.setExp hn x, h.sp.only (F := Just p) (Only.setCell (p := ⟨p, _, none⟩) (Only.refl (Just p) _) (.inl (show Just p p from rfl)) _) (fun e => h.off.1 e.symm) (fun e => h.off.2 e.symm)⟩
end
end Go.Proofs.YtodephhlhdbeoaaGreat
