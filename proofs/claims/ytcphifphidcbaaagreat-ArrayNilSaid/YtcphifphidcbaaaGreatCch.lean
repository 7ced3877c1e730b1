/- A cache in memory; Has, Len, All, there, Takes. -/
import Derived.Test.YtcphifphidcbaaaGreatOrd
import Derived.Test.YtcphifphidcbaaaGreatMapI
import Derived.Test.YtcphifphidcbaaaGreatCfgB
namespace Go.Proofs.YtcphifphidcbaaaGreat
open Go.RowKit Go.ChangeShapes Go.WideShapes
set_option linter.unusedVariables false
set_option linter.unusedSimpArgs false
def cchCells (c : CfgA) (hv : Value) (tier : Nat) (t : TypeId) (x : Value) (mb : Nat) : Array Value := cfgCells c hv ++ #[.int .i64 tier, .iface t x, .map (some mb)]
theorem cch_f (c : CfgA) (hv : Value) (tier : Nat) (t : TypeId) (x : Value) (mb : Nat) {i : Nat} (hi : i < 16) : (cchCells c hv tier t x mb)[i]? = some (.int .i64 (c.f i)) := by
  unfold cchCells
  rw [Array.getElem?_append_left (by show i < 17; omega)]
  exact cfgCells_at c hv hi
theorem cch_tier (c : CfgA) (hv : Value) (tier : Nat) (t : TypeId) (x : Value) (mb : Nat) : (cchCells c hv tier t x mb)[17]? = some (.int .i64 tier) := rfl
theorem cch_o (c : CfgA) (hv : Value) (tier : Nat) (t : TypeId) (x : Value) (mb : Nat) : (cchCells c hv tier t x mb)[18]? = some (.iface t x) := rfl
theorem cch_m (c : CfgA) (hv : Value) (tier : Nat) (t : TypeId) (x : Value) (mb : Nat) : (cchCells c hv tier t x mb)[19]? = some (.map (some mb)) := rfl
abbrev Blk := List Int × Value
def vOf (D : Int → Option Blk) : Int → Option Value := fun b => (D b).map Prod.snd
structure DatB (w : World) (cb mb : Nat) (F : Nat → Prop) (size : Int) (l : List Int) (v : Value) : Prop where
  len : (l.length : Int) = size
  byt : Byt w v l
  at_ : ∃ g ca, v = .slice (some ⟨g, 0, none⟩) l.length ca ∧ g < w.heap.size ∧ g ≠ cb ∧ g ≠ mb ∧ ¬ F g
/-- block cb is a cache, of a configuration, a tier, an order in the state s, with the blocks D -/
structure CchB (K : OKind) (i : K.ι) (w : World) (cb mb : Nat) (c : CfgA) (hv : Value) (tier : Nat) (s : K.σ) (D : Int → Option Blk) : Prop where
  box : Box w cb 129 (cchCells c hv tier K.t (K.x i) mb)
  ord : K.R i s w
  map : MapI w mb (vOf D)
  keys : ∀ b, (D b).isSome = true ↔ b ∈ K.sp.all s
  dat : ∀ b l v, D b = some (l, v) → DatB w cb mb (K.F i) (c.f 3) l v
  ncb : ¬ K.F i cb
  nmb : ¬ K.F i mb
  right : CfgP c
  t1 : 1 ≤ tier
  t3 : tier ≤ 3
  hin : ∃ A n cp, hv = .slice A n cp ∧ HintsAt w A n cp c.h ∧ (0 < c.h.length → ∀ k, ownB hv k → ¬ K.F i k ∧ k ≠ cb ∧ k ≠ mb)
section
set_option maxHeartbeats 4000000
set_option maxRecDepth 100000
variable {K : OKind} {i : K.ι} {w : World} {cb mb : Nat} {c : CfgA} {hv : Value} {tier : Nat} {s : K.σ} {D : Int → Option Blk}
theorem CchB.cm (h : CchB K i w cb mb c hv tier s D) : cb ≠ mb := h.map.ne h.box
/-- what a call may write to -/
def CF (F : Nat → Prop) (cb mb : Nat) : Nat → Prop := fun k => F k ∨ k = mb ∨ k = cb
theorem CchB.only {S : Nat → Prop} {w' : World} (h : CchB K i w cb mb c hv tier s D) (ho : Only S w w') (hS : ∀ k, k < w.heap.size → ¬ S k) : CchB K i w' cb mb c hv tier s D :=
  { box := ho.box h.box (hS _ h.box.lt), ord := (K.oc i).only h.ord ho fun k hk => hS k ((K.oc i).lt h.ord k hk), map := h.map.only ho (hS _ h.map.lt), keys := h.keys, ncb := h.ncb, nmb := h.nmb, right := h.right, t1 := h.t1, t3 := h.t3
    dat := fun b l v hb => by
      obtain ⟨h1, h2, g, ca, rfl, h3, h4⟩ := h.dat b l v hb
      exact ⟨h1, h2.only ho fun k hk => by rw [← ownB_slice.1 hk]; exact hS g h3, g, ca, rfl, Nat.lt_of_lt_of_le h3 ho.size, h4⟩
    hin := by
      obtain ⟨A, n, cp, h1, h2, h3⟩ := h.hin
      exact ⟨A, n, cp, h1, h2.only ho hS, h3⟩ }
theorem CchB.keep {w' : World} (h : CchB K i w cb mb c hv tier s D) (ho : Only Non w w') : CchB K i w' cb mb c hv tier s D := h.only ho fun _ _ => id
theorem cch_has (b : Int) (h : CchB K i w cb mb c hv tier s D) :
    Calls Tryz.prog 77 #[.pointer (some ⟨cb, 0, none⟩), .int .i64 b] w fun e w' => e = .returned (.bool (decide (b ∈ K.sp.all s))) ∧ Only Non w w' := by
  have hx : w.cell? ⟨cb, 18, none⟩ = some (.iface K.t (K.x i)) := h.box.cellAt (cch_o _ _ _ _ _ _)
  have hm := (K.oc i).dhas.m
  have he := (K.oc i).dhas.e
  have HC := Lib.hid ((K.oc i).has b h.ord)
  generalize decide (b ∈ K.sp.all s) = k at *
  clear h
  go_enter Tryz.func77, Tryz.ntmps77
  go_wp2_with (refine HC.out.mono ?_; rintro e w1 ⟨rfl, h1⟩)
  go_ret
  exact ⟨rfl, h1⟩
theorem cch_all (h : CchB K i w cb mb c hv tier s D) :
    Calls Tryz.prog 45 #[.pointer (some ⟨cb, 0, none⟩)] w fun e w' => ∃ v, e = .returned v ∧ OwnInts 3 w' w.heap.size v (K.sp.all s) ∧ Only Non w w' := by
  have hx : w.cell? ⟨cb, 18, none⟩ = some (.iface K.t (K.x i)) := h.box.cellAt (cch_o _ _ _ _ _ _)
  have hm := (K.oc i).dall.m
  have he := (K.oc i).dall.e
  have HC := Lib.hid ((K.oc i).all h.ord)
  clear h
  go_enter Tryz.func45, Tryz.ntmps45
  go_wp2_with (refine HC.out.mono ?_; rintro e w1 ⟨v, rfl, h1, h2⟩)
  go_ret
  exact ⟨v, rfl, h1, h2⟩
theorem cch_there (b : Int) (h : CchB K i w cb mb c hv tier s D) :
    Calls Tryz.prog 123 #[.pointer (some ⟨cb, 0, none⟩), .int .i64 b] w fun e w' => e = .returned (.bool (decide (0 ≤ b) && decide (b < c.f 2))) ∧ w = w' := by
  have hx : w.cell? ⟨cb, 2, none⟩ = some (.int .i64 (c.f 2)) := h.box.cellAt (cch_f _ _ _ _ _ _ (by decide))
  generalize c.f 2 = n at *
  clear h
  by_cases h1 : 0 ≤ b
  · have hb1 : decide (0 ≤ b) = true := by simp [h1]
    by_cases h2 : b < n
    · have hb2 : decide (b < n) = true := by simp [h2]
      rw [hb1, hb2]
      clear hb1 hb2
      go_enter Tryz.func123, Tryz.ntmps123
      go_wp2
      go_ret
      exact ⟨rfl, rfl⟩
    · have hb2 : decide (b < n) = false := by simp [h2]
      rw [hb1, hb2]
      clear hb1 hb2
      go_enter Tryz.func123, Tryz.ntmps123
      go_wp2
      go_ret
      exact ⟨rfl, rfl⟩
  · have hb1 : decide (0 ≤ b) = false := by simp [h1]
    rw [hb1]
    clear hb1
    go_enter Tryz.func123, Tryz.ntmps123
    go_wp2
    go_ret
    exact ⟨rfl, rfl⟩
/-- Takes, where no plan says who is where -/
def takesP (c : CfgA) (tier : Nat) (b level : Int) : Bool := decide (0 ≤ b) && decide (b < c.f 2) && (decide (c.f 5 ≠ 1) || decide (level = tier))
theorem cch_takes (b level : Int) (h : CchB K i w cb mb c hv tier s D) (hp : c.f 5 ≠ 2) :
    Calls Tryz.prog 124 #[.pointer (some ⟨cb, 0, none⟩), .int .i64 b, .int .i64 level] w fun e w' => e = .returned (.bool (takesP c tier b level)) ∧ w = w' := by
  have hx5 : w.cell? ⟨cb, 5, none⟩ = some (.int .i64 (c.f 5)) := h.box.cellAt (cch_f _ _ _ _ _ _ (by decide))
  have hx1 : w.cell? ⟨cb, 17, none⟩ = some (.int .i64 tier) := h.box.cellAt (cch_tier _ _ _ _ _ _)
  have HT := cch_there b h
  unfold takesP
  generalize (decide (0 ≤ b) && decide (b < c.f 2)) = k at *
  have HT := Lib.hid HT
  generalize c.f 5 = pl at *
  clear h
  cases k with
  | false =>
    go_enter Tryz.func124, Tryz.ntmps124
    go_wp2_with (go_at_call 123; refine HT.out.mono ?_; rintro e w1 ⟨rfl, rfl⟩)
    go_ret
    exact ⟨rfl, rfl⟩
  | true =>
    by_cases h1 : pl = 1
    · by_cases h2 : level = tier
      · have e : (true && (decide (pl ≠ 1) || decide (level = (tier : Int)))) = true := by simp [h2]
        rw [e]
        clear e
        go_enter Tryz.func124, Tryz.ntmps124
        go_wp2_with (go_at_call 123; refine HT.out.mono ?_; rintro e w1 ⟨rfl, rfl⟩)
        go_ret
        exact ⟨by simp, rfl⟩
      · have e : (true && (decide (pl ≠ 1) || decide (level = (tier : Int)))) = false := by simp [h1, h2]
        rw [e]
        clear e
        have h2' : (level == (tier : Int)) = false := by simpa using h2
        go_enter Tryz.func124, Tryz.ntmps124
        go_wp2_with (go_at_call 123; refine HT.out.mono ?_; rintro e w1 ⟨rfl, rfl⟩)
        go_ret
        exact ⟨by simp [h2], rfl⟩
    · have e : (true && (decide (pl ≠ 1) || decide (level = (tier : Int)))) = true := by simp [h1]
      rw [e]
      clear e
      go_enter Tryz.func124, Tryz.ntmps124
      go_wp2_with (go_at_call 123; refine HT.out.mono ?_; rintro e w1 ⟨rfl, rfl⟩)
      go_ret
      exact ⟨rfl, rfl⟩
end
end Go.Proofs.YtcphifphidcbaaaGreat
