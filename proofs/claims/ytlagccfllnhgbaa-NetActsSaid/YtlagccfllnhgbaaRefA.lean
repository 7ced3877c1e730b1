/- The document's net: has, without. -/
import Derived.Test.YtlagccfllnhgbaaNetK
namespace Go.Proofs.Ytlagccfllnhgbaa
open Go.RowKit
set_option linter.unusedVariables false
set_option linter.unusedSimpArgs false
section
set_option maxHeartbeats 2000000
theorem rhas_lo (nb : Nat) (way i : Int) (w : World) (h : way < 0) :
    Calls Try.prog 46 #[.pointer (some ⟨nb, 0, none⟩), .int .i64 way, .int .i64 i] w fun e w' => e = .returned (.bool false) ∧ w = w' := by
  have h1 : ¬ 0 ≤ way := by omega
  go_enter Try.func46, Try.ntmps46
  go_wp2_with fail
  go_ret
  exact ⟨rfl, rfl⟩
theorem rhas_hi (nb n cp : Nat) (A : Option Addr) (way i : Int) (w : World) (hn : n ≤ 32) (h : (n : Int) ≤ way) (h0 : w.cell? ⟨nb, 0, none⟩ = some (.slice A n cp)) :
    Calls Try.prog 46 #[.pointer (some ⟨nb, 0, none⟩), .int .i64 way, .int .i64 i] w fun e w' => e = .returned (.bool false) ∧ w = w' := by
  have h1 : 0 ≤ way := by omega
  have h2 : ¬ way < n := by omega
  go_enter Try.func46, Try.ntmps46
  go_wp2_with fail
  go_ret
  exact ⟨rfl, rfl⟩
theorem rhas_in (nb wb n cp ln cq : Nat) (A : Option Addr) (way i : Int) (w : World) (hw0 : 0 ≤ way) (hw1 : way < n) (hn : n ≤ 32) (hl : ln ≤ 400) (h0 : w.cell? ⟨nb, 0, none⟩ = some (.slice (some ⟨wb, 0, none⟩) n cp))
    (h1 : w.cell? ⟨wb, way.toNat, none⟩ = some (.slice A ln cq)) :
    Calls Try.prog 46 #[.pointer (some ⟨nb, 0, none⟩), .int .i64 way, .int .i64 i] w fun e w' => e = .returned (.bool (hasN ln i)) ∧ w = w' := by
  by_cases hi : 0 ≤ i
  · go_enter Try.func46, Try.ntmps46
    go_wp2_with fail
    go_ret
    refine ⟨?_, rfl⟩
    simp [hasN, *]
  · go_enter Try.func46, Try.ntmps46
    go_wp2_with fail
    go_ret
    refine ⟨?_, rfl⟩
    have : hasN ln i = false := by simp only [hasN]; rw [decide_eq_false (show ¬ 0 ≤ i by omega)]; rfl
    rw [this]; rfl
theorem rhas_any (nb base : Nat) (F H : Nat → Prop) (c : Cont) (way i : Int) (w : World) (h : NetIs 52 w base nb F H c) :
    Calls Try.prog 46 #[.pointer (some ⟨nb, 0, none⟩), .int .i64 way, .int .i64 i] w fun e w' => e = .returned (.bool (hasC c way i)) ∧ w = w' := by
  obtain ⟨hv, vs, rows, hA⟩ := h
  have hnc := hA.nc
  by_cases h0 : way < 0
  · rw [show hasC c way i = false from by simp [hasC, thereC]; omega]
    exact rhas_lo nb way i w h0
  by_cases h1 : way < c.length
  · have hj : way.toNat < vs.length := by omega
    obtain ⟨wb, cp, A, cq, _, n0, _, n1, _, _, _⟩ := hA.way hj
    have e : hasC c way i = hasN (c.row way.toNat).length i := by
      simp only [hasC, thereC, hasN]
      rw [decide_eq_true (show 0 ≤ way by omega), decide_eq_true h1]; rfl
    rw [e]
    exact rhas_in nb wb vs.length cp _ cq A way i w (by omega) (by omega) (by rw [← hnc]; exact hA.c32) (hA.c400 _ hj) n0 n1
  · rw [show hasC c way i = false from by simp only [hasC, thereC]; rw [decide_eq_false h1]; simp]
    obtain ⟨A, cp, _, n0, _, _⟩ := hA.head
    exact rhas_hi nb vs.length cp A way i w (by rw [← hnc]; exact hA.c32) (by omega) n0

/-- all but one, made anew -/
def WoPost (row : List Value) (i : Nat) (w : World) (e : Ending) (w' : World) : Prop :=
  ∃ v, e = .returned v ∧ Row 26 w' v (row.eraseIdx i) ∧ Only Non w w' ∧ ∀ k, ownB v k → w.heap.size ≤ k
theorem without_any (v : Value) (row : List Value) (i : Int) (w : World) (hr : Row 26 w v row) (hone : ∀ u ∈ row, u.oneCell' = true) (h4 : row.length ≤ 400) (hi0 : 0 ≤ i) (hi1 : i < row.length) :
    Calls Try.prog 47 #[v, .int .i64 i] w (WoPost row i.toNat w) := by
  have hul : i.toNat < row.length := by omega
  obtain ⟨g, cp, rfl, _⟩ := hr.cut hul
  obtain ⟨A0, c0, e0, hl0, hm0⟩ := hr.shape
  injection e0 with ea eb e0
  subst e0 ea
  clear eb
  have hsrc := hr.srcOf.2
  obtain ⟨A', hif, hsrcA⟩ : ∃ A', (if cp = i.toNat + 1 then some (⟨g, 0, none⟩ : Addr) else some ⟨g, i.toNat + 1, none⟩) = A' ∧ Src w A' (row.drop (i.toNat + 1)) := by
    refine ⟨_, rfl, ?_⟩
    split
    · rw [List.drop_eq_nil_of_le (by omega)]; exact Src.nil_ _ _
    · exact hsrc.drop _
  have hsrcT : Src w (some ⟨g, 0, none⟩) (row.take i.toNat) := fun j u hj => hsrc j u (by
    rw [List.getElem?_take] at hj
    split at hj
    · exact hj
    · cases hj)
  have HsrcA := Lib.hid hsrcA
  have HsrcT := Lib.hid hsrcT
  have HoneT := Lib.hid (show ∀ u ∈ row.take i.toNat, u.oneCell' = true from fun u hu => hone u (List.mem_of_mem_take hu))
  have HoneD := Lib.hid (show ∀ u ∈ row.drop (i.toNat + 1), u.oneCell' = true from fun u hu => hone u (List.mem_of_mem_drop hu))
  have T0 := Lib.hid (show i.toNat = (row.take i.toNat).length from by rw [List.length_take]; omega)
  have T1 := Lib.hid (show ([] : List Value).length + (row.take i.toNat).length ≤ maxLen from by rw [List.length_take, List.length_nil]; unfold maxLen; omega)
  have T2 := Lib.hid (show (([] : List Value).length + (row.take i.toNat).length) * 24 ≤ 140737488355328 from by rw [List.length_take, List.length_nil]; omega)
  have Q0 := Lib.hid (show row.length - (i.toNat + 1) = (row.drop (i.toNat + 1)).length from by rw [List.length_drop])
  have Q1 := Lib.hid (show (([] : List Value) ++ row.take i.toNat).length + (row.drop (i.toNat + 1)).length ≤ maxLen from by rw [List.nil_append, List.length_drop, List.length_take]; unfold maxLen; omega)
  have Q2 := Lib.hid (show ((([] : List Value) ++ row.take i.toNat).length + (row.drop (i.toNat + 1)).length) * 24 ≤ 140737488355328 from by rw [List.nil_append, List.length_drop, List.length_take]; omega)
  unfold maxLen at hm0
  clear hsrc hsrcA hsrcT hr hone
  have Her := Lib.hid (List.eraseIdx_eq_take_drop_succ row i.toNat)
  generalize hrl : row.length = m at *
  generalize row.take i.toNat = rt at *
  generalize row.drop (i.toNat + 1) = rd at *
  clear hrl
  go_enter Try.func47, Try.ntmps47
  have b1 : i ≤ (cp : Int) := by omega
  have b2 : i ≤ max i 0 := by omega
  have b4 : 0 ≤ i + 1 := by omega
  have b5 : i + 1 ≤ (m : Int) := by omega
  have b6 : (i + 1).toNat = i.toNat + 1 := by omega
  have b3 : IntKind.i64.wrap (i + 1) = i + 1 := IntWalk.i64_in _ (by omega)
  go_wp2_with (first
    | (at_builtin; refine wpList_append_row _ rfl (.tmp 6) (.tmp 9) 22 26 rfl frameInfo rfl Try.underlying22 (.slice none 0 0) [] rfl (Row.nil_ _ _) (some ⟨g, 0, none⟩) i.toNat cp rt rfl T0.out HsrcT.out HoneT.out T1.out T2.out ?_
       intro v1 w1 hrow1 hgrow1 hown1 _
       have ho1 : Only Non w w1 := hgrow1.trans' (Only.refl Non _) (fun _ h => h.elim) |>.mono fun b hb => (ownB_none hb).elim
       have Ho1 := Lib.hid ho1
       have Hn1 := Lib.hid (show ∀ k, ownB v1 k → w.heap.size ≤ k from fun k hk => (hown1 k hk).elim (fun h => (ownB_none h).elim) id)
       have Hsrc2 := Lib.hid (HsrcA.out.only ho1 fun _ _ _ _ => id)
       obtain ⟨B1, c1, hv1, _⟩ := hrow1.shape
       have Hrow1 := Lib.hid hrow1
       clear hrow1 hgrow1 hown1 ho1
       generalize hx1 : ([] ++ rt : List Value).length = n1 at *
       subst hv1)
    | (at_builtin; refine wpList_append_row _ rfl (.tmp 11) (.tmp 15) 22 26 rfl frameInfo rfl Try.underlying22 (.slice B1 n1 c1) ([] ++ rt) rfl Hrow1.out A' (m - (i.toNat + 1)) (cp - (i.toNat + 1)) rd rfl Q0.out Hsrc2.out HoneD.out (by rw [hx1]; exact Q1.out) (by rw [hx1]; exact Q2.out) ?_
       intro v2 w2 hrow2 hgrow2 hown2 _))
  go_ret
  rw [List.nil_append, ← Her.out] at hrow2
  refine ⟨v2, rfl, hrow2, Ho1.out.trans' hgrow2 fun b hb => .inr (Hn1.out b hb), fun k hk => (hown2 k hk).elim (Hn1.out k) fun h => Nat.le_trans Ho1.out.size h⟩
end
end Go.Proofs.Ytlagccfllnhgbaa
