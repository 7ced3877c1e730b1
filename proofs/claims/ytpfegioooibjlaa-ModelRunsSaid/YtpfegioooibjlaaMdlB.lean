/- The model's list in memory: Clone, All, Misses, Use. -/
import Derived.Test.YtpfegioooibjlaaMdlA
import Derived.Test.YtpfegioooibjlaaTail
import Derived.RegionTactic
import Derived.BigRegion
namespace Go.Proofs.Ytpfegioooibjlaa
open Go.RowKit
set_option linter.unusedVariables false
set_option linter.unusedSimpArgs false
def useL (b : Int) (most : Nat) (l : List Int) : List Int := (b :: l.erase b).take most
theorem idx_from (x : Int) : ∀ (l : List Int) (i : Nat), (x ∈ l → ∃ k, k < l.length ∧ Lib.idxFrom l x i = ((i + k : Nat) : Int) ∧ l.eraseIdx k = l.erase x) ∧ (x ∉ l → Lib.idxFrom l x i = -1)
  | [], i => ⟨fun h => by simp at h, fun _ => rfl⟩
  | z :: l, i => by
    obtain ⟨h1, h2⟩ := idx_from x l (i + 1)
    by_cases hz : z = x
    · subst hz
      exact ⟨fun _ => ⟨0, by simp, by simp [Lib.idxFrom], by simp⟩, fun h => by simp at h⟩
    · refine ⟨fun h => ?_, fun h => ?_⟩
      · obtain ⟨k, hk, e1, e2⟩ := h1 (by simpa [Ne.symm hz] using h)
        refine ⟨k + 1, by simp; omega, ?_, ?_⟩
        · simp only [Lib.idxFrom, if_neg hz, e1]
          congr 1; omega
        · rw [List.eraseIdx_cons_succ, e2, List.erase_cons_tail (by simpa using hz)]
      · simp only [Lib.idxFrom, if_neg hz]
        exact h2 (by simp at h; exact h.2)
theorem rowOf {w : World} {base : Nat} {e : TypeId} {v : Value} {n : Nat} {xs : List Value} (h : w.ownsRow base e 1 v n xs) : Row e w v xs ∧ ∀ k, ownB v k → base ≤ k := by
  obtain ⟨h1, h2⟩ := h
  rcases h2 with ⟨rfl, h0⟩ | ⟨g, cap, cur, rfl, hb, hg, hn, hm, hs, ht⟩
  · subst h0
    have : xs = [] := List.eq_nil_of_length_eq_zero (by omega)
    subst this
    exact ⟨Row.nil_ _ _, fun k hk => (ownB_none hk).elim⟩
  · obtain rfl : n = xs.length := by omega
    exact ⟨.inr ⟨g, cap, cur, rfl, hg, hn, by omega, hm, by rw [Nat.mul_one] at ht; exact ht⟩, fun k hk => by rw [ownB_slice] at hk; omega⟩
def ClonePost (l : List Int) (w : World) (e : Ending) (w' : World) : Prop :=
  ∃ v', e = .returned v' ∧ Row 3 w' v' (ints l) ∧ (∀ k, ownB v' k → w.heap.size ≤ k) ∧ Only Non w w'
theorem clone_ints (A : Option Addr) (c : Nat) (l : List Int) (w : World) (h : Src w A (ints l)) (hl : l.length ≤ 1000000) : Calls Try.prog 22 #[.slice A l.length c] w (ClonePost l w) := by
  cases A with
  | none =>
    have : l = [] := by
      cases l with
      | nil => rfl
      | cons y l => obtain ⟨g, o, e, _⟩ := h 0 _ (ints_at (y :: l) 0 (by simp)); cases e
    subst this
    refine (sh_Clone_int_nil _ c w).mono ?_
    rintro e w' ⟨rfl, rfl⟩
    exact ⟨_, rfl, Row.nil_ _ _, fun k hk => (ownB_none hk).elim, Only.refl _ _⟩
  | some a =>
    cases l with
    | nil =>
      refine (sh_Clone_int_zero a c w).mono ?_
      rintro e w' ⟨v', rfl, hv, _, hb⟩
      exact ⟨v', rfl, (rowOf hv).1, (rowOf hv).2, Only.of_below hb⟩
    | cons y l =>
      obtain ⟨g, o, e1, _⟩ := h 0 _ (ints_at (y :: l) 0 (by simp))
      injection e1 with e1
      subst e1
      refine (sh_Clone_int g o (y :: l).length c (y :: l) w (Nat.le_refl _) (by omega) fun j hj => ?_).mono ?_
      · obtain ⟨g', o', e2, hcell⟩ := h j _ (ints_at (y :: l) j hj)
        injection e2 with e2
        injection e2 with e2 e3
        subst e2 e3
        exact hcell
      · rintro e w' ⟨v', rfl, hv, _, hb⟩
        rw [List.take_length] at hv
        exact ⟨v', rfl, (rowOf hv).1, (rowOf hv).2, Only.of_below hb⟩
structure MdlAt (w : World) (base lb : Nat) (F : Nat → Prop) (c0 c1 c2 : Nat) (l : List Int) (m : Nat) (v : Value) : Prop where
  box : Box w lb 44 #[.int .i64 c0, .int .i64 c1, .int .i64 c2, v, .int .i64 m]
  row : Row 3 w v (ints l)
  foot : ∀ k, F k ↔ k = lb ∨ ownB v k
  hi : ∀ k, F k → base ≤ k
  caps : 1 ≤ c0 ∧ c0 ≤ 16 ∧ 1 ≤ c1 ∧ c1 ≤ 16 ∧ 1 ≤ c2 ∧ c2 ≤ 16
  len : l.length ≤ c0 + c1 + c2
def MdlIs (w : World) (base lb : Nat) (F : Nat → Prop) (c0 c1 c2 : Nat) (l : List Int) (m : Nat) : Prop := ∃ v, MdlAt w base lb F c0 c1 c2 l m v
section
variable {w w' : World} {base lb : Nat} {F S : Nat → Prop} {c0 c1 c2 : Nat} {l : List Int} {m : Nat} {v : Value}
theorem MdlAt.only (h : MdlAt w base lb F c0 c1 c2 l m v) (ho : Only S w w') (hF : ∀ k, F k → ¬ S k) : MdlAt w' base lb F c0 c1 c2 l m v :=
  { h with box := ho.box h.box (hF _ ((h.foot _).2 (.inl rfl))), row := h.row.only ho fun k hk => hF k ((h.foot k).2 (.inr hk)) }
theorem MdlIs.only (h : MdlIs w base lb F c0 c1 c2 l m) (ho : Only S w w') (hF : ∀ k, F k → ¬ S k) : MdlIs w' base lb F c0 c1 c2 l m := by
  obtain ⟨v, h⟩ := h; exact ⟨v, h.only ho hF⟩
theorem MdlIs.keep (h : MdlIs w base lb F c0 c1 c2 l m) (ho : Only Non w w') : MdlIs w' base lb F c0 c1 c2 l m := h.only ho fun _ _ => id
theorem MdlAt.flt (h : MdlAt w base lb F c0 c1 c2 l m v) {k : Nat} (hk : F k) : k < w.heap.size := by
  rcases (h.foot k).1 hk with rfl | hk
  · exact h.box.lt
  · exact h.row.lt hk
theorem MdlIs.flt (h : MdlIs w base lb F c0 c1 c2 l m) {k : Nat} (hk : F k) : k < w.heap.size := by obtain ⟨v, h⟩ := h; exact h.flt hk
theorem MdlIs.hi (h : MdlIs w base lb F c0 c1 c2 l m) {k : Nat} (hk : F k) : base ≤ k := by obtain ⟨v, h⟩ := h; exact h.hi k hk
theorem MdlAt.sep (h : MdlAt w base lb F c0 c1 c2 l m v) : ¬ ownB v lb := fun hk => by
  obtain ⟨cs, hb⟩ := h.row.box hk
  exact absurd (h.box.same hb).1 (by decide)
theorem MdlAt.l48 (h : MdlAt w base lb F c0 c1 c2 l m v) : l.length ≤ 48 := by have := h.len; have := h.caps; omega
end
def MdlPost (base lb : Nat) (F : Nat → Prop) (c0 c1 c2 : Nat) (l' : List Int) (m' : Nat) (w w' : World) : Prop :=
  ∃ F', MdlIs w' base lb F' c0 c1 c2 l' m' ∧ (∀ k, F' k → F k ∨ w.heap.size ≤ k) ∧ Only F w w'
section
set_option maxHeartbeats 2000000
set_option maxRecDepth 100000
theorem all_any (base lb : Nat) (F : Nat → Prop) (c0 c1 c2 : Nat) (l : List Int) (m : Nat) (w : World) (h : MdlIs w base lb F c0 c1 c2 l m) :
    Calls Try.prog 14 #[.pointer (some ⟨lb, 0, none⟩)] w (ClonePost l w) := by
  obtain ⟨v, h⟩ := h
  obtain ⟨A, c, rfl, hc, hm⟩ := h.row.shape
  have b3 : w.cell? ⟨lb, 3, none⟩ = some (.slice A (ints l).length c) := h.box.cellAt rfl
  have HC := Lib.hid (clone_ints A c l w h.row.srcOf.2 (by have := h.l48; omega))
  rw [ints_len] at b3
  clear h hc hm
  go_enter Try.func14, Try.ntmps14
  go_wp2_with fail
  refine HC.out.mono ?_
  rintro e w' ⟨v', rfl, h1, h2, h3⟩
  have H := Lib.hid (show ClonePost l w (.returned v') w' from ⟨v', rfl, h1, h2, h3⟩)
  clear h1 h2 h3
  go_wp2_with fail
  go_ret
  exact H.out
theorem all_nil (w : World) : Calls Try.prog 14 #[.pointer none] w fun e w' => e = .returned (.slice none 0 0) ∧ w = w' := by
  go_enter Try.func14, Try.ntmps14
  go_wp2_with fail
  go_ret
  exact ⟨rfl, rfl⟩
theorem misses_any (base lb : Nat) (F : Nat → Prop) (c0 c1 c2 : Nat) (l : List Int) (m : Nat) (w : World) (h : MdlIs w base lb F c0 c1 c2 l m) :
    Calls Try.prog 15 #[.pointer (some ⟨lb, 0, none⟩)] w fun e w' => e = .returned (.int .i64 m) ∧ w = w' := by
  obtain ⟨v, h⟩ := h
  have b4 : w.cell? ⟨lb, 4, none⟩ = some (.int .i64 m) := h.box.cellAt rfl
  clear h
  go_enter Try.func15, Try.ntmps15
  go_wp2_with fail
  go_ret
  exact ⟨rfl, rfl⟩
theorem misses_nil (w : World) : Calls Try.prog 15 #[.pointer none] w fun e w' => e = .returned (.int .i64 0) ∧ w = w' := by
  go_enter Try.func15, Try.ntmps15
  go_wp2_with fail
  go_ret
  exact ⟨rfl, rfl⟩
theorem use_nil (b : Int) (w : World) : Calls Try.prog 10 #[.pointer none, .int .i64 b] w fun e w' => e = .returned (.tuple #[.bool false, .int .i64 7]) ∧ w = w' := by
  go_enter Try.func10, Try.ntmps10
  go_wp2_with fail
  go_ret2
  exact ⟨rfl, rfl⟩
theorem use_out (lb : Nat) (b : Int) (w : World) (h : b < 0 ∨ 63 < b) : Calls Try.prog 10 #[.pointer (some ⟨lb, 0, none⟩), .int .i64 b] w fun e w' => e = .returned (.tuple #[.bool false, .int .i64 3]) ∧ w = w' := by
  by_cases h0 : b < 0
  · go_enter Try.func10, Try.ntmps10
    go_wp2_with fail
    go_ret2
    exact ⟨rfl, rfl⟩
  · have h1 : 64 ≤ b := by omega
    clear h
    go_enter Try.func10, Try.ntmps10
    go_wp2_with fail
    go_ret2
    exact ⟨rfl, rfl⟩
theorem use_fin {base lb : Nat} {F : Nat → Prop} {c0 c1 c2 m m' n k g c3 : Nat} {l l1 : List Int} {b : Int} {v v1 u0 : Value} {o : Obj} {w X w3 Y : World} (hA : MdlAt w base lb F c0 c1 c2 l m v) (hbase : base ≤ w.heap.size) (hoX : Only F w X)
    (own1 : ∀ k, ownB v1 k → F k) (ho3 : Only (ownB v1) (X.alloc o) w3) (hg : ownB v1 g ∨ (X.alloc o).heap.size ≤ g) (ho4 : Only (Just lb) w3 Y) (hb : Box Y lb 44 #[.int .i64 c0, .int .i64 c1, .int .i64 c2, u0, .int .i64 m'])
    (hr : Row 3 Y (.slice (some ⟨g, 0, none⟩) (n + 1) c3) (ints (b :: l1))) (hl1 : l1.length = n) (hne : lb ≠ g) (hk : k = min (n + 1) (c0 + c1 + c2)) :
    MdlPost base lb F c0 c1 c2 ((b :: l1).take (c0 + c1 + c2)) m' w ((Y.setCell ⟨lb, 3, none⟩ (.slice (some ⟨g, 0, none⟩) k c3)).drew) := by
  have fl : F lb := (hA.foot lb).2 (.inl rfl)
  have s1 := hoX.size
  have s2 : X.heap.size ≤ (X.alloc o).heap.size := ((Only.refl Non X).alloc o).size
  have hgF : F g ∨ w.heap.size ≤ g := hg.imp (own1 g) fun h => by omega
  have ht : (b :: l1).take k = (b :: l1).take (c0 + c1 + c2) := by
    rw [List.take_eq_take_iff, List.length_cons, hl1, hk]; omega
  refine ⟨fun x => x = lb ∨ x = g, ⟨.slice (some ⟨g, 0, none⟩) k c3, ?_⟩, ?_, ?_⟩
  · refine { box := (hb.store 3 _).drew, row := ?_, foot := fun x => by rw [ownB_slice]; exact Iff.rfl.trans (or_congr Iff.rfl eq_comm), hi := ?_, caps := hA.caps, len := by rw [List.length_take]; omega }
    · have := hr.cutTo (k := k) (by omega)
      rw [show (ints (b :: l1)).take k = ints ((b :: l1).take (c0 + c1 + c2)) from by rw [← ht]; exact List.map_take.symm] at this
      exact this.only ((Only.setCell (S := Just lb) (p := ⟨lb, 3, none⟩) (Only.refl _ Y) (.inl rfl) _).drew) fun x hx e => hne (by have e' : x = lb := e; rw [ownB_slice] at hx; omega)
    · rintro x (rfl | rfl)
      · exact hA.hi _ fl
      · exact hgF.elim (hA.hi _) fun h => by omega
  · rintro x (rfl | rfl)
    · exact .inl fl
    · exact hgF
  · have h1 : Only F w w3 := (hoX.transN ((Only.refl Non X).alloc o)).trans' ho3 fun x hx => .inl (own1 x hx)
    have h2 : Only F w Y := h1.trans' ho4 fun x hx => .inl (by have e' : x = lb := hx; rw [e']; exact fl)
    exact (Only.setCell (p := ⟨lb, 3, none⟩) h2 (.inl fl) _).drew
def UsePost (base lb : Nat) (F : Nat → Prop) (c0 c1 c2 : Nat) (l : List Int) (m : Nat) (b : Int) (w : World) (e : Ending) (w' : World) : Prop :=
  e = .returned (.tuple #[.bool (decide (b ∈ l)), .int .i64 0]) ∧ MdlPost base lb F c0 c1 c2 (useL b (c0 + c1 + c2) l) (if b ∈ l then m else m + 1) w w'
theorem use_in (base lb : Nat) (F : Nat → Prop) (c0 c1 c2 : Nat) (l : List Int) (m : Nat) (b : Int) (w : World) (h : MdlIs w base lb F c0 c1 c2 l m) (hbase : base ≤ w.heap.size) (hm : m ≤ 1000000) (h0 : 0 ≤ b) (h63 : b ≤ 63) :
    Calls Try.prog 10 #[.pointer (some ⟨lb, 0, none⟩), .int .i64 b] w (UsePost base lb F c0 c1 c2 l m b w) := by
  have hb0 : ¬ b < 0 := by omega
  have hb1 : ¬ 64 ≤ b := by omega
  obtain ⟨v, hA⟩ := h
  have hl := hA.l48
  obtain ⟨hI1, hI2⟩ := idx_from b l 0
  have HI := Lib.hid (idx_any v l b w hA.row (by omega))
  by_cases hin : b ∈ l
  · obtain ⟨i, hi, e1, e2⟩ := hI1 hin
    have hD := del_any v l i w hA.row hi
    rw [show ((i + 1 : Nat) : Int) = (i : Int) + 1 from by simp] at hD
    unfold DelPost at hD
    rw [e2] at hD
    have HD := Lib.hid hD
    have e1' : Lib.idxOf l b = (i : Int) := by rw [Lib.idxOf, e1, Nat.zero_add]
    unfold IdxPost at HI
    rw [e1'] at HI
    have He2 := Lib.hid e2
    have Hin := Lib.hid hin
    have b0 : w.cell? ⟨lb, 0, none⟩ = some (.int .i64 c0) := hA.box.cellAt rfl
    have b1 : w.cell? ⟨lb, 1, none⟩ = some (.int .i64 c1) := hA.box.cellAt rfl
    have b2 : w.cell? ⟨lb, 2, none⟩ = some (.int .i64 c2) := hA.box.cellAt rfl
    have b3 : w.cell? ⟨lb, 3, none⟩ = some v := hA.box.cellAt rfl
    have b4 : w.cell? ⟨lb, 4, none⟩ = some (.int .i64 m) := hA.box.cellAt rfl
    obtain ⟨A, c, ev, _, _⟩ := hA.row.shape
    have HA := Lib.hid hA
    have Hsep := Lib.hid hA.sep
    have hli : i < 48 := by omega
    generalize (ints l).length = nl at *
    subst ev
    have hle : (l.erase b).length ≤ l.length := List.length_erase_le
    have Hle := Lib.hid hle
    clear hA hI1 hI2 e1 e1' e2 hin hi hD hle
    go_enter Try.func10, Try.ntmps10
    go_wp2_with fail
    refine HI.out.mono ?_
    rintro e w' ⟨rfl, rfl⟩
    go_wp2_with fail
    refine HD.out.mono ?_
    rintro e w1 ⟨v1, rfl, hr1, ho1, hw1⟩
    have hsep1 : ¬ ownB v1 lb := fun hk => Hsep.out (hw1 _ hk)
    have hn1 : (ints (l.erase b)).length ≤ 48 := by rw [ints_len]; exact Nat.le_trans Hle.out hl
    have Hw1 := Lib.hid hw1
    have Ho1 := Lib.hid ho1
    have HB1 := Lib.hid (ho1.box HA.out.box Hsep.out)
    have d0 := ho1.cell b0 Hsep.out
    have d1 := ho1.cell b1 Hsep.out
    have d2 := ho1.cell b2 Hsep.out
    have d3 := ho1.cell b3 Hsep.out
    have d3' : w1.frozen? ⟨lb, 3, none⟩ = false := HB1.out.free 3
    have d4 := ho1.cell b4 Hsep.out
    obtain ⟨A1, cq1, hv1, _, _⟩ := hr1.shape
    have Hr1 := Lib.hid hr1
    have Hsep1 := Lib.hid hsep1
    clear hr1 ho1 hw1 hsep1
    generalize hn1e : (ints (l.erase b)).length = n1 at *
    have Hn1e := Lib.hid hn1e; clear hn1e
    subst hv1
    go_wp2_with fail
    have HX := Lib.hid (HB1.out.store 3 (.slice A1 n1 cq1))
    have HrX := Lib.hid (Hr1.out.only (Only.setCell (S := Just lb) (p := ⟨lb, 3, none⟩) (Only.refl _ w1) (.inl rfl) (.slice A1 n1 cq1)) fun k hk e => Hsep1.out (by have e' : k = lb := e; rw [← e']; exact hk))
    have HoX := Lib.hid (show Only F w (w1.setCell ⟨lb, 3, none⟩ (.slice A1 n1 cq1)) from Only.setCell (p := ⟨lb, 3, none⟩) (Ho1.out.mono fun k hk => .inl ((HA.out.foot k).2 (.inr hk))) (.inl ((HA.out.foot lb).2 (.inl rfl))) _)
    have Hvb := Lib.hid (show (w1.setCell ⟨lb, 3, none⟩ (.slice A1 n1 cq1)).heap.size = w1.heap.size by simp)
    clear d0 d1 d2 d3 d3' d4 b0 b1 b2 b3 b4
    generalize w1.setCell ⟨lb, 3, none⟩ (.slice A1 n1 cq1) = X at *
    generalize w1.heap.size = vb at *
    have hXl : lb < X.heap.size := HX.out.lt
    have hW := (Only.refl Non X).alloc (.cells #[.int .i64 b] 3)
    have HBW := Lib.hid (hW.box HX.out id)
    have hI := ins_any (.slice A1 n1 cq1) (l.erase b) b vb _ (HrX.out.only hW fun _ _ => id) (by have := Hn1e.out; rw [ints_len] at this; omega) (by rw [← Hvb.out]; exact Box.fresh X 3 #[.int .i64 b]) (fun hk => by have := HrX.out.lt hk; have := Hvb.out; omega)
    have HI3 := Lib.hid hI
    have HW := Lib.hid hW
    have Hsz := Lib.hid (show X.heap.size ≤ (X.alloc (.cells #[.int .i64 b] 3)).heap.size from hW.size)
    clear hW hI
    refine HI3.out.mono ?_
    rintro e w3 ⟨g, c3, rfl, hr3, ho3, hg3, hcm3⟩
    have hln1 : (l.erase b).length = n1 := by have := Hn1e.out; rw [ints_len] at this; exact this
    rw [hln1] at hr3 ⊢
    have HB3 := Lib.hid (ho3.box HBW.out Hsep1.out)
    have hne : lb ≠ g := fun e => hg3.elim (fun h => Hsep1.out (by rw [e]; exact h)) (fun h => by have := Hsz.out; omega)
    have Hr3 := Lib.hid hr3
    have Ho3 := Lib.hid ho3
    have Hg3 := Lib.hid hg3
    have e0 : w3.cell? ⟨lb, 0, none⟩ = some (.int .i64 c0) := HB3.out.cellAt rfl
    have e1 : w3.cell? ⟨lb, 1, none⟩ = some (.int .i64 c1) := HB3.out.cellAt rfl
    have e2 : w3.cell? ⟨lb, 2, none⟩ = some (.int .i64 c2) := HB3.out.cellAt rfl
    have e3 : w3.cell? ⟨lb, 3, none⟩ = some (.slice A1 n1 cq1) := HB3.out.cellAt rfl
    have e3' : w3.frozen? ⟨lb, 3, none⟩ = false := HB3.out.free 3
    have hc3 : n1 + 1 ≤ c3 := by obtain ⟨_, _, h3, _, _, h4, _⟩ := hr3.some_; omega
    have hcc : c3 ≤ 9223372036854775807 := by simpa [maxLen] using hcm3
    have hcap := HA.out.caps
    obtain ⟨k1, k2, k3, k4, k5, k6⟩ := hcap
    clear hr3 ho3 hg3 hcm3 hln1
    go_wp2_with fail
    have HB4 := Lib.hid (HB3.out.store 3 (.slice (some ⟨g, 0, none⟩) (n1 + 1) c3))
    have HR4 := Lib.hid (Hr3.out.only (Only.setCell (S := Just lb) (p := ⟨lb, 3, none⟩) (Only.refl _ w3) (.inl rfl) (.slice (some ⟨g, 0, none⟩) (n1 + 1) c3)) fun k hk e => hne (by have e' : k = lb := e; rw [ownB_slice] at hk; omega))
    have HO4 := Lib.hid (Only.setCell (S := Just lb) (p := ⟨lb, 3, none⟩) (Only.refl _ w3) (.inl rfl) (.slice (some ⟨g, 0, none⟩) (n1 + 1) c3))
    generalize w3.setCell ⟨lb, 3, none⟩ (.slice (some ⟨g, 0, none⟩) (n1 + 1) c3) = Y at *
    clear e0 e1 e2 e3 e3'
    have e0 : Y.cell? ⟨lb, 0, none⟩ = some (.int .i64 c0) := HB4.out.cellAt rfl
    have e1 : Y.cell? ⟨lb, 1, none⟩ = some (.int .i64 c1) := HB4.out.cellAt rfl
    have e2 : Y.cell? ⟨lb, 2, none⟩ = some (.int .i64 c2) := HB4.out.cellAt rfl
    have e3 : Y.cell? ⟨lb, 3, none⟩ = some (.slice (some ⟨g, 0, none⟩) (n1 + 1) c3) := HB4.out.cellAt rfl
    have e3' : Y.frozen? ⟨lb, 3, none⟩ = false := HB4.out.free 3
    go_region
    go_wp2_with fail
    go_ret2
    refine ⟨by rw [decide_eq_true Hin.out]; rfl, ?_⟩
    rw [if_pos Hin.out]
    exact use_fin HA.out hbase HoX.out (fun k hk => (HA.out.foot k).2 (.inr (Hw1.out k hk))) Ho3.out Hg3.out HO4.out HB4.out HR4.out (by have := Hn1e.out; rw [ints_len] at this; exact this) hne (by omega)
  · have e1' : Lib.idxOf l b = -1 := hI2 hin
    unfold IdxPost at HI
    rw [e1'] at HI
    have b0 : w.cell? ⟨lb, 0, none⟩ = some (.int .i64 c0) := hA.box.cellAt rfl
    have b1 : w.cell? ⟨lb, 1, none⟩ = some (.int .i64 c1) := hA.box.cellAt rfl
    have b2 : w.cell? ⟨lb, 2, none⟩ = some (.int .i64 c2) := hA.box.cellAt rfl
    have b3 : w.cell? ⟨lb, 3, none⟩ = some v := hA.box.cellAt rfl
    have b4 : w.cell? ⟨lb, 4, none⟩ = some (.int .i64 m) := hA.box.cellAt rfl
    have b4' : w.frozen? ⟨lb, 4, none⟩ = false := hA.box.free 4
    obtain ⟨A1, cq1, ev, _, _⟩ := hA.row.shape
    have HA := Lib.hid hA
    have Hsep1 := Lib.hid hA.sep
    have Hin := Lib.hid hin
    have her : l.erase b = l := List.erase_of_not_mem hin
    rw [← her] at ev
    have hn1 : (ints (l.erase b)).length ≤ 48 := by rw [ints_len, her]; exact hl
    have Her := Lib.hid her
    generalize hn1e : (ints (l.erase b)).length = n1 at *
    have Hn1e := Lib.hid hn1e
    clear hI1 hI2 e1' hin her hn1e hA
    subst ev
    go_enter Try.func10, Try.ntmps10
    go_wp2_with fail
    refine HI.out.mono ?_
    rintro e w' ⟨rfl, rfl⟩
    go_wp2_with fail
    have HX := Lib.hid (HA.out.box.store 4 (.int .i64 (m + 1 : Nat)))
    have HrX := Lib.hid (show Row 3 (w.setCell ⟨lb, 4, none⟩ (.int .i64 (m + 1 : Nat))) (.slice A1 n1 cq1) (ints (l.erase b)) from by rw [Her.out]; exact HA.out.row.only (Only.setCell (S := Just lb) (p := ⟨lb, 4, none⟩) (Only.refl _ w) (.inl rfl) _) fun k hk e => Hsep1.out (by have e' : k = lb := e; rw [← e']; exact hk))
    have HoX := Lib.hid (show Only F w (w.setCell ⟨lb, 4, none⟩ (.int .i64 (m + 1 : Nat))) from Only.setCell (p := ⟨lb, 4, none⟩) (Only.refl _ _) (.inl ((HA.out.foot lb).2 (.inl rfl))) _)
    have Hvb := Lib.hid (show (w.setCell ⟨lb, 4, none⟩ (.int .i64 (m + 1 : Nat))).heap.size = w.heap.size by simp)
    clear b0 b1 b2 b3 b4 b4'
    rw [show ((m : Int) + 1) = ((m + 1 : Nat) : Int) from by simp]
    generalize w.setCell ⟨lb, 4, none⟩ (.int .i64 (m + 1 : Nat)) = X at *
    generalize hvv : w.heap.size = vb at *
    have hXl : lb < X.heap.size := HX.out.lt
    have hW := (Only.refl Non X).alloc (.cells #[.int .i64 b] 3)
    have HBW := Lib.hid (hW.box HX.out id)
    have hI := ins_any (.slice A1 n1 cq1) (l.erase b) b vb _ (HrX.out.only hW fun _ _ => id) (by have := Hn1e.out; rw [ints_len] at this; omega) (by rw [← Hvb.out]; exact Box.fresh X 3 #[.int .i64 b]) (fun hk => by have := HrX.out.lt hk; have := Hvb.out; omega)
    have HI3 := Lib.hid hI
    have HW := Lib.hid hW
    have Hsz := Lib.hid (show X.heap.size ≤ (X.alloc (.cells #[.int .i64 b] 3)).heap.size from hW.size)
    clear hW hI
    refine HI3.out.mono ?_
    rintro e w3 ⟨g, c3, rfl, hr3, ho3, hg3, hcm3⟩
    have hln1 : (l.erase b).length = n1 := by have := Hn1e.out; rw [ints_len] at this; exact this
    rw [hln1] at hr3 ⊢
    have HB3 := Lib.hid (ho3.box HBW.out Hsep1.out)
    have hne : lb ≠ g := fun e => hg3.elim (fun h => Hsep1.out (by rw [e]; exact h)) (fun h => by have := Hsz.out; omega)
    have Hr3 := Lib.hid hr3
    have Ho3 := Lib.hid ho3
    have Hg3 := Lib.hid hg3
    have e0 : w3.cell? ⟨lb, 0, none⟩ = some (.int .i64 c0) := HB3.out.cellAt rfl
    have e1 : w3.cell? ⟨lb, 1, none⟩ = some (.int .i64 c1) := HB3.out.cellAt rfl
    have e2 : w3.cell? ⟨lb, 2, none⟩ = some (.int .i64 c2) := HB3.out.cellAt rfl
    have e3 : w3.cell? ⟨lb, 3, none⟩ = some (.slice A1 n1 cq1) := HB3.out.cellAt rfl
    have e3' : w3.frozen? ⟨lb, 3, none⟩ = false := HB3.out.free 3
    have hc3 : n1 + 1 ≤ c3 := by obtain ⟨_, _, h3, _, _, h4, _⟩ := hr3.some_; omega
    have hcc : c3 ≤ 9223372036854775807 := by simpa [maxLen] using hcm3
    have hcap := HA.out.caps
    obtain ⟨k1, k2, k3, k4, k5, k6⟩ := hcap
    clear hr3 ho3 hg3 hcm3 hln1
    go_wp2_with fail
    have HB4 := Lib.hid (HB3.out.store 3 (.slice (some ⟨g, 0, none⟩) (n1 + 1) c3))
    have HR4 := Lib.hid (Hr3.out.only (Only.setCell (S := Just lb) (p := ⟨lb, 3, none⟩) (Only.refl _ w3) (.inl rfl) (.slice (some ⟨g, 0, none⟩) (n1 + 1) c3)) fun k hk e => hne (by have e' : k = lb := e; rw [ownB_slice] at hk; omega))
    have HO4 := Lib.hid (Only.setCell (S := Just lb) (p := ⟨lb, 3, none⟩) (Only.refl _ w3) (.inl rfl) (.slice (some ⟨g, 0, none⟩) (n1 + 1) c3))
    generalize w3.setCell ⟨lb, 3, none⟩ (.slice (some ⟨g, 0, none⟩) (n1 + 1) c3) = Y at *
    clear e0 e1 e2 e3 e3'
    have e0 : Y.cell? ⟨lb, 0, none⟩ = some (.int .i64 c0) := HB4.out.cellAt rfl
    have e1 : Y.cell? ⟨lb, 1, none⟩ = some (.int .i64 c1) := HB4.out.cellAt rfl
    have e2 : Y.cell? ⟨lb, 2, none⟩ = some (.int .i64 c2) := HB4.out.cellAt rfl
    have e3 : Y.cell? ⟨lb, 3, none⟩ = some (.slice (some ⟨g, 0, none⟩) (n1 + 1) c3) := HB4.out.cellAt rfl
    have e3' : Y.frozen? ⟨lb, 3, none⟩ = false := HB4.out.free 3
    go_region
    go_wp2_with fail
    go_ret2
    refine ⟨by rw [decide_eq_false Hin.out]; rfl, ?_⟩
    rw [if_neg Hin.out]
    exact use_fin HA.out (by rw [hvv]; exact hbase) HoX.out (fun k hk => (HA.out.foot k).2 (.inr hk)) Ho3.out Hg3.out HO4.out HB4.out HR4.out (by have := Hn1e.out; rw [ints_len] at this; exact this) hne (by omega)
end
end Go.Proofs.Ytpfegioooibjlaa
