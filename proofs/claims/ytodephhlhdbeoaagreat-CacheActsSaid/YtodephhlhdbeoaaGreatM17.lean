/- Several texts, one behind the other: Cch Cno Cnw Cpu Cua Lea Cwk Cwl Cnl Cdr Cst Ccl Cbk CchL. -/
import Derived.Test.YtodephhlhdbeoaaGreatM16
import Derived.Test.YtodephhlhdbeoaaGreatM1
import Derived.Test.YtodephhlhdbeoaaGreatM5
import Derived.Test.YtodephhlhdbeoaaGreatM7
import Derived.Deep.MidRow
namespace Go.Proofs.YtodephhlhdbeoaaGreat
open Go.RowKit Go.ChangeShapes Go.WideShapes
set_option linter.unusedVariables false
set_option linter.unusedSimpArgs false
def cchCells (c : CfgA) (hv : Value) (tier : Nat) (t : TypeId) (x : Value) (mb : Nat) : Array Value := cfgCells c hv ++ #[.int .i64 tier, .iface t x, .map (some mb)]
theorem cch_f (c : CfgA) (hv : Value) (tier : Nat) (t : TypeId) (x : Value) (mb : Nat) {i : Nat} (hi : i < 16) : (cchCells c hv tier t x mb)[i]? = some (.int .i64 (c.f i)) := by
  unfold cchCells
  rw [Array.getElem?_append_left (by show i < 17; omega)]
  exact cfgCells_at c hv hi
theorem cch_tier (c : CfgA) (hv : Value) (tier : Nat) (t : TypeId) (x : Value) (mb : Nat) : (cchCells c hv tier t x mb)[17]? = some (.int .i64 tier) := rfl
theorem cch_o (c : CfgA) (hv : Value) (tier : Nat) (t : TypeId) (x : Value) (mb : Nat) : (cchCells c hv tier t x mb)[18]? = some (.iface t x) := rfl
theorem cch_m (c : CfgA) (hv : Value) (tier : Nat) (t : TypeId) (x : Value) (mb : Nat) : (cchCells c hv tier t x mb)[19]? = some (.map (some mb)) := rfl
abbrev Blk := List Int × Value
def vOf (D : Int → Option Blk) : Int → Option Value := fun b => (D b).map Prod.snd
def RowB (w : World) (v : Value) (l : List Int) : Prop := Byt w v l ∧ ∀ k, ownB v k → ∃ cs, Box w k 5 cs
theorem RowB.only {S : Nat → Prop} {w w' : World} {v : Value} {l : List Int} (h : RowB w v l) (ho : Only S w w') (hn : ∀ k, ownB v k → ¬ S k) : RowB w' v l :=
  ⟨h.1.only ho hn, fun k hk => by obtain ⟨cs, hb⟩ := h.2 k hk; exact ⟨cs, ho.box hb (hn k hk)⟩⟩
structure DatB (w : World) (cb mb : Nat) (F : Nat → Prop) (size : Int) (l : List Int) (v : Value) : Prop where
  len : (l.length : Int) = size
  row : RowB w v l
  at_ : ∃ g ca, v = .slice (some ⟨g, 0, none⟩) l.length ca ∧ g < w.heap.size ∧ g ≠ cb ∧ g ≠ mb ∧ ¬ F g
theorem DatB.byt {w : World} {cb mb : Nat} {F : Nat → Prop} {size : Int} {l : List Int} {v : Value} (h : DatB w cb mb F size l v) : Byt w v l := h.row.1
structure CchB (K : OKind) (i : K.ι) (w : World) (cb mb : Nat) (c : CfgA) (hv : Value) (tier : Nat) (s : K.σ) (D : Int → Option Blk) : Prop where
  box : Box w cb 147 (cchCells c hv tier K.t (K.x i) mb)
  ord : K.R i s w
  map : MapI w mb (vOf D)
  keys : ∀ b, (D b).isSome = true ↔ b ∈ K.sp.all s
  dat : ∀ b l v, D b = some (l, v) → DatB w cb mb (K.F i) (c.f 3) l v
  ncb : ¬ K.F i cb
  nmb : ¬ K.F i mb
  right : CfgP c
  t1 : 1 ≤ tier
  t3 : tier ≤ 3
  hin : ∃ A n cp, hv = .slice A n cp ∧ HintsAt w A n cp c.h ∧ (0 < c.h.length → ∀ k, ownB hv k → ¬ K.F i k ∧ k ≠ cb ∧ k ≠ mb)
section
set_option maxHeartbeats 4000000
set_option maxRecDepth 100000
variable {K : OKind} {i : K.ι} {w : World} {cb mb : Nat} {c : CfgA} {hv : Value} {tier : Nat} {s : K.σ} {D : Int → Option Blk}
theorem CchB.cm (h : CchB K i w cb mb c hv tier s D) : cb ≠ mb := h.map.ne h.box
def CF (F : Nat → Prop) (cb mb : Nat) : Nat → Prop := fun k => F k ∨ k = mb ∨ k = cb
theorem CchB.only {S : Nat → Prop} {w' : World} (h : CchB K i w cb mb c hv tier s D) (ho : Only S w w') (hS : ∀ k, k < w.heap.size → ¬ S k) : CchB K i w' cb mb c hv tier s D :=
  { box := ho.box h.box (hS _ h.box.lt), ord := (K.oc i).only h.ord ho fun k hk => hS k ((K.oc i).lt h.ord k hk), map := h.map.only ho (hS _ h.map.lt), keys := h.keys, ncb := h.ncb, nmb := h.nmb, right := h.right, t1 := h.t1, t3 := h.t3
    dat := fun b l v hb => by
      obtain ⟨h1, h2, g, ca, rfl, h3, h4⟩ := h.dat b l v hb
      exact ⟨h1, h2.only ho fun k hk => by rw [← ownB_slice.1 hk]; exact hS g h3, g, ca, rfl, Nat.lt_of_lt_of_le h3 ho.size, h4⟩
    hin := by
      obtain ⟨A, n, cp, h1, h2, h3⟩ := h.hin
      exact ⟨A, n, cp, h1, h2.only ho hS, h3⟩ }
theorem CchB.keep {w' : World} (h : CchB K i w cb mb c hv tier s D) (ho : Only Non w w') : CchB K i w' cb mb c hv tier s D := h.only ho fun _ _ => id
theorem cch_has (b : Int) (h : CchB K i w cb mb c hv tier s D) :
    Calls Tryz.prog 28 #[.pointer (some ⟨cb, 0, none⟩), .int .i64 b] w fun e w' => e = .returned (.bool (decide (b ∈ K.sp.all s))) ∧ Only Non w w' := by
  have hx : w.cell? ⟨cb, 18, none⟩ = some (.iface K.t (K.x i)) := h.box.cellAt (cch_o _ _ _ _ _ _)
  have hm := (K.oc i).dhas.m
  have he := (K.oc i).dhas.e
  have HC := Lib.hid ((K.oc i).has b h.ord)
  generalize decide (b ∈ K.sp.all s) = k at *
  clear h
  go_enter Tryz.func28, Tryz.ntmps28
  go_wp2_with (refine HC.out.mono ?_; rintro e w1 ⟨rfl, h1⟩)
  go_ret
  exact ⟨rfl, h1⟩
theorem cch_all (h : CchB K i w cb mb c hv tier s D) :
    Calls Tryz.prog 25 #[.pointer (some ⟨cb, 0, none⟩)] w fun e w' => ∃ v, e = .returned v ∧ OwnInts 3 w' w.heap.size v (K.sp.all s) ∧ Only Non w w' := by
  have hx : w.cell? ⟨cb, 18, none⟩ = some (.iface K.t (K.x i)) := h.box.cellAt (cch_o _ _ _ _ _ _)
  have hm := (K.oc i).dall.m
  have he := (K.oc i).dall.e
  have HC := Lib.hid ((K.oc i).all h.ord)
  clear h
  go_enter Tryz.func25, Tryz.ntmps25
  go_wp2_with (refine HC.out.mono ?_; rintro e w1 ⟨v, rfl, h1, h2⟩)
  go_ret
  exact ⟨v, rfl, h1, h2⟩
theorem cch_there (b : Int) (h : CchB K i w cb mb c hv tier s D) :
    Calls Tryz.prog 100 #[.pointer (some ⟨cb, 0, none⟩), .int .i64 b] w fun e w' => e = .returned (.bool (decide (0 ≤ b) && decide (b < c.f 2))) ∧ w = w' := by
  have hx : w.cell? ⟨cb, 2, none⟩ = some (.int .i64 (c.f 2)) := h.box.cellAt (cch_f _ _ _ _ _ _ (by decide))
  generalize c.f 2 = n at *
  clear h
  by_cases h1 : 0 ≤ b
  · have hb1 : decide (0 ≤ b) = true := by simp [h1]
    by_cases h2 : b < n
    · have hb2 : decide (b < n) = true := by simp [h2]
      rw [hb1, hb2]
      clear hb1 hb2
      go_enter Tryz.func100, Tryz.ntmps100
      go_wp2
      go_ret
      exact ⟨rfl, rfl⟩
    · have hb2 : decide (b < n) = false := by simp [h2]
      rw [hb1, hb2]
      clear hb1 hb2
      go_enter Tryz.func100, Tryz.ntmps100
      go_wp2
      go_ret
      exact ⟨rfl, rfl⟩
  · have hb1 : decide (0 ≤ b) = false := by simp [h1]
    rw [hb1]
    clear hb1
    go_enter Tryz.func100, Tryz.ntmps100
    go_wp2
    go_ret
    exact ⟨rfl, rfl⟩
def takesP (c : CfgA) (tier : Nat) (b level : Int) : Bool := decide (0 ≤ b) && decide (b < c.f 2) && (decide (c.f 5 ≠ 1) || decide (level = tier))
theorem cch_takes (b level : Int) (h : CchB K i w cb mb c hv tier s D) (hp : c.f 5 ≠ 2) :
    Calls Tryz.prog 30 #[.pointer (some ⟨cb, 0, none⟩), .int .i64 b, .int .i64 level] w fun e w' => e = .returned (.bool (takesP c tier b level)) ∧ w = w' := by
  have hx5 : w.cell? ⟨cb, 5, none⟩ = some (.int .i64 (c.f 5)) := h.box.cellAt (cch_f _ _ _ _ _ _ (by decide))
  have hx1 : w.cell? ⟨cb, 17, none⟩ = some (.int .i64 tier) := h.box.cellAt (cch_tier _ _ _ _ _ _)
  have HT := cch_there b h
  unfold takesP
  generalize (decide (0 ≤ b) && decide (b < c.f 2)) = k at *
  have HT := Lib.hid HT
  generalize c.f 5 = pl at *
  clear h
  cases k with
  | false =>
    go_enter Tryz.func30, Tryz.ntmps30
    go_wp2_with (go_at_call 100; refine HT.out.mono ?_; rintro e w1 ⟨rfl, rfl⟩)
    go_ret
    exact ⟨rfl, rfl⟩
  | true =>
    by_cases h1 : pl = 1
    · by_cases h2 : level = tier
      · have e : (true && (decide (pl ≠ 1) || decide (level = (tier : Int)))) = true := by simp [h2]
        rw [e]
        clear e
        go_enter Tryz.func30, Tryz.ntmps30
        go_wp2_with (go_at_call 100; refine HT.out.mono ?_; rintro e w1 ⟨rfl, rfl⟩)
        go_ret
        exact ⟨by simp, rfl⟩
      · have e : (true && (decide (pl ≠ 1) || decide (level = (tier : Int)))) = false := by simp [h1, h2]
        rw [e]
        clear e
        have h2' : (level == (tier : Int)) = false := by simpa using h2
        go_enter Tryz.func30, Tryz.ntmps30
        go_wp2_with (go_at_call 100; refine HT.out.mono ?_; rintro e w1 ⟨rfl, rfl⟩)
        go_ret
        exact ⟨by simp [h2], rfl⟩
    · have e : (true && (decide (pl ≠ 1) || decide (level = (tier : Int)))) = true := by simp [h1]
      rw [e]
      clear e
      go_enter Tryz.func30, Tryz.ntmps30
      go_wp2_with (go_at_call 100; refine HT.out.mono ?_; rintro e w1 ⟨rfl, rfl⟩)
      go_ret
      exact ⟨rfl, rfl⟩
end
def OPost (K : OKind) (w : World) (e : Ending) (w' : World) : Prop := ∃ i, e = .returned (.iface K.t (K.x i)) ∧ K.R i K.s0 w' ∧ (∀ k, K.F i k → w.heap.size ≤ k) ∧ Only Non w w'
def OKind.Made (K : OKind) (c : CfgA) (tier : Nat) : Prop :=
  ∀ (w : World) (A : Option Addr) (n cp : Nat), HintsAt w A n cp c.h → Calls Tryz.prog 85 #[.agg (cfgCells c (.slice A n cp)), .int .i64 tier] w (OPost K w)
section
set_option maxHeartbeats 4000000
set_option maxRecDepth 100000
theorem lru_made {c : CfgA} {k : Nat} (hP : CfgP c) (hk : k < 3) (hp : c.f 5 ≠ 2) (hq : c.f (6 + k) ≠ 2) : (lruK (c.f (9 + k)).toNat).Made c (k + 1) := by
  intro w A n cp hin
  have hc := hP.pc k hk
  obtain ⟨cap, hcap⟩ := Int.eq_ofNat_of_zero_le (show 0 ≤ c.f (9 + k) by omega)
  rw [hcap] at hc
  rw [hcap, Int.toNat_natCast]
  have HN := fun w => lru_new (cap := cap) w (by omega) (by omega)
  have HN := Lib.hid HN
  clear hin hP hc
  have hw : IntKind.i64.wrap (((k + 1 : Nat) : Int) - 1) = k := by rw [IntKind.wrap_i64]; omega
  have hk3 : (k : Int) < 3 := by omega
  have hcell := fun (W : World) (bb : Nat) (hb : Box W bb 25 (cfgCells c (.slice A n cp))) (i : Nat) (hi : i < 16) => hb.cellAt (cfgCells_at c (.slice A n cp) hi)
  have HC := Lib.hid hcell
  have HF := Lib.hid hcap
  have HQ := Lib.hid hq
  clear hcell hcap hq
  go_enter Tryz.func85, Tryz.ntmps85
  go_upto_region 1 with fail
  have HB := Lib.hid (Box.fresh w 25 (cfgCells c (.slice A n cp)))
  have HO := Lib.hid ((Only.refl Non w).alloc (.cells (cfgCells c (.slice A n cp)) 25))
  generalize w.alloc (.cells (cfgCells c (.slice A n cp)) 25) = W1 at *
  generalize w.heap.size = bb at *
  have c5 := HC.out W1 bb HB.out 5 (by decide)
  have c6 := HC.out W1 bb HB.out (6 + k) (by omega)
  have c9 := HC.out W1 bb HB.out (9 + k) (by omega)
  rw [HF.out] at c9
  have hq := HQ.out
  generalize c.f 5 = f5 at *
  generalize c.f (6 + k) = f6 at *
  have HN1 := Lib.hid (HN.out W1)
  clear HC HF HQ HN
  go_wp2_with (go_at_call 159; refine HN1.out.mono ?_; rintro e W2 ⟨p, g, eb, rfl, h1, h2, h3, h4, h5⟩)
  go_ret
  have hsz := HO.out.size
  refine ⟨(p, g, eb), rfl, ⟨h1, Nat.zero_le _⟩, fun j hj => ?_, HO.out.trans h5⟩
  rcases hj with rfl | rfl | rfl
  · exact Nat.le_trans hsz h2
  · exact Nat.le_trans hsz h3
  · exact Nat.le_trans hsz h4
end
theorem wpList_build' {P : Program} {ops : Array Oper} {rest : List Oper} {o : Oper} {a : Act} {w : World} {Q : Exit → Act → World → Prop} (hgd : o.guard = none) (t : TypeId) (parts : Array (Nat × Operand)) (ho : o.op = .build t parts)
    (pv : List (Nat × Value)) (cells : Array Value) (hf : (parts.map fun (i, x) => (i, a.eval x)).toList = pv) (hb : P.built t pv = some cells) (h : wpList P ops Q rest (a.put o.dst (.agg cells)) w) : wpList P ops Q (o :: rest) a w :=
  wpList_plain hgd fun K hK => Go.wp_build t parts ho (by rw [hf, hb]; rfl) (by rw [hf, hb]; exact hK _ _ h)
theorem built_cch (c : CfgA) (hv : Value) (A : Option Addr) (n cp : Nat) (tier : Int) (t : TypeId) (x : Value) (mb : Nat) : Tryz.prog.built 147 [(0, .agg (cfgCells c (.slice A n cp))), (1, .int .i64 tier), (2, .iface t x), (3, .map (some mb))] = some (cfgCells c (.slice A n cp) ++ #[.int .i64 tier, .iface t x, .map (some mb)]) := by kernel_rfl
def NPost (K : OKind) (c : CfgA) (tier : Nat) (w : World) (e : Ending) (w' : World) : Prop :=
  ∃ i cb mb hv, e = .returned (.tuple #[.pointer (some ⟨cb, 0, none⟩), .int .i64 0]) ∧ CchB K i w' cb mb c hv tier K.s0 (fun _ => none) ∧ (∀ k, K.F i k → w.heap.size ≤ k) ∧ w.heap.size ≤ cb ∧ w.heap.size ≤ mb ∧ (0 < c.h.length → ∀ k, ownB hv k → w.heap.size ≤ k) ∧ Only Non w w'
section
set_option maxHeartbeats 4000000
set_option maxRecDepth 100000
theorem HintsAt.far {S : Nat → Prop} {w w' : World} {A : Option Addr} {n c : Nat} {l : List HintA} (h : HintsAt w A n c l) (ho : Only S w w') (hS : 0 < l.length → ∀ k, ownB (.slice A n c) k → ¬ S k) : HintsAt w' A n c l :=
  ⟨h.len, h.cap, h.max, fun i hi => by
    obtain ⟨g, o, e, hg, h0, h1, h2, h3⟩ := h.at_ i hi
    have hn := hS (by omega) g (by rw [e]; exact ownB_slice.2 rfl)
    exact ⟨g, o, e, Nat.lt_of_lt_of_le hg ho.size, ho.cell h0 hn, ho.cell h1 hn, ho.cell h2 hn, ho.cell h3 hn⟩⟩
theorem cch_new {KO : OKind} {c : CfgA} {tier : Nat} (hK : KO.Made c tier) (hP : CfgP c) (h1 : 1 ≤ tier) (h3 : tier ≤ 3) {A : Option Addr} {n cp : Nat} (w : World) (hin : HintsAt w A n cp c.h) :
    Calls Tryz.prog 19 #[.agg (cfgCells c (.slice A n cp)), .int .i64 tier] w (NPost KO c tier w) := by
  have HK := Lib.hid hK
  have HP := Lib.hid hP
  have hlen : c.h.length ≤ 100 := by have := hP.hs.2.2; omega
  have HL := Lib.hid hlen
  have HI := Lib.hid hin
  have ht1 : ¬ (tier : Int) < 1 := by omega
  have ht3 : ¬ (3 : Int) < tier := by omega
  clear hK hP hlen hin
  go_enter Tryz.func19, Tryz.ntmps19
  go_upto_region 1 with fail
  have HB1 := Lib.hid (Box.fresh w 25 (cfgCells c (.slice A n cp)))
  have HO1 := Lib.hid ((Only.refl Non w).alloc (.cells (cfgCells c (.slice A n cp)) 25))
  have HI1 := Lib.hid (HI.out.keep HO1.out)
  generalize w.alloc (.cells (cfgCells c (.slice A n cp)) 25) = W1 at *
  obtain ⟨bb, hbb⟩ : ∃ bb, bb = w.heap.size := ⟨_, rfl⟩
  have HBB := Lib.hid (show w.heap.size ≤ bb from Nat.le_of_eq hbb.symm)
  rw [← hbb] at HB1 ⊢
  clear hbb HI
  have hr := right_any A n cp c W1 HI1.out
  rw [cfgB_yes HP.out] at hr
  have HR := Lib.hid hr
  clear hr
  go_upto_region 3 with (first | (refine wpList_load_row rfl 25 _ rfl bb rfl 25 (cfgCells c (.slice A n cp)) (0, 0) _ HB1.out Tryz.underlying25 rfl (by kernel_rfl) ?_) | (go_at_call 83; refine HR.out.mono ?_; rintro e W2 ⟨rfl, ho2⟩))
  have HB2 := Lib.hid (ho2.box HB1.out id)
  have HI2 := Lib.hid (HI1.out.keep ho2)
  have HO2 := Lib.hid (HO1.out.trans ho2)
  clear ho2 HB1 HI1 HO1 HR
  have hb16 : W2.cell? ⟨bb, 16, none⟩ = some (.slice A n cp) := HB2.out.cellAt (cfgCells_hs c _)
  have HCL := Lib.hid (hclone_any W2 HI2.out HL.out)
  go_upto_region 4 with (go_at_call 84; refine HCL.out.mono ?_; rintro e W3 ⟨B, cp2, rfl, hh3, ho3, hown3⟩; have HB3 := Lib.hid (ho3.box HB2.out id); have hb16' : W3.cell? ⟨bb, 16, none⟩ = some (.slice A n cp) := ho3.cell hb16 id; have hf16 := HB3.out.free 16)
  have hO4 : Only Non w (W3.setCell ⟨bb, 16, none⟩ (.slice B c.h.length cp2)) := (HO2.out.trans ho3).setCell (p := ⟨bb, 16, none⟩) (.inr HBB.out) _
  have hB4 : Box (W3.setCell ⟨bb, 16, none⟩ (.slice B c.h.length cp2)) bb 25 (cfgCells c (.slice B c.h.length cp2)) := HB3.out.store 16 (.slice B c.h.length cp2)
  have hH4 : HintsAt (W3.setCell ⟨bb, 16, none⟩ (.slice B c.h.length cp2)) B c.h.length cp2 c.h := hh3.far (S := Just bb) ((Only.refl (Just bb) W3).setCell (p := ⟨bb, 16, none⟩) (.inl (show Just bb bb from rfl)) _) fun _ k hk e => by
    have h1 := hown3 k hk
    have h2 := HB2.out.lt
    have h3 : k = bb := e
    omega
  have HO4 := Lib.hid hO4
  have HB4 := Lib.hid hB4
  have HH4 := Lib.hid hH4
  have HW := Lib.hid (show 0 < c.h.length → ∀ k, ownB (.slice B c.h.length cp2) k → k < W3.heap.size ∧ w.heap.size ≤ k from fun h0 k hk => by
    have hlow := Nat.le_trans HO2.out.size (hown3 k hk)
    obtain ⟨g, o, e, hg, _⟩ := hh3.at_ 0 h0
    subst e
    refine ⟨?_, hlow⟩
    rw [← ownB_slice.1 hk]; exact hg)
  have HSZ := Lib.hid (show (W3.setCell ⟨bb, 16, none⟩ (.slice B c.h.length cp2)).heap.size = W3.heap.size by simp [World.setCell])
  change Code.wp _ _ _ _ (W3.setCell ⟨bb, 16, none⟩ (.slice B c.h.length cp2))
  clear hO4 hB4 hH4 hh3 ho3 hown3 HB3 hb16' hf16 HB2 HI2 HO2 hb16 HCL
  generalize W3.setCell ⟨bb, 16, none⟩ (.slice B c.h.length cp2) = W4 at *
  have hmk := @run_makeMap Tryz.prog
  refine wp_region_tail (S := (fun w' : World => Box w' bb 25 (cfgCells c (.slice B c.h.length cp2)) ∧ Only Non W4 w')) 6 (by kernel_rfl) (by kernel_rfl) ?_ ?_
  · exact ⟨by first | exact hSS.1.alloc _ | exact hB5 | exact hB5.alloc _ | exact HB4.out, by first | exact hSS.2.alloc _ | exact hO5 | exact hO5.alloc _ | exact (Only.refl Non W4).drew⟩
  intro hSS
  refine wpHd_take (i := 0) (v := .agg (cfgCells c (.slice B c.h.length cp2))) (by kernel_rfl) rfl (by kernel_rfl) (fun _ _ _ h => h) (yieldsIf_load_mid (by rfl) 25 _ rfl bb 0 rfl (cfgCells c (.slice B c.h.length cp2)).toList _ (fun w hw j v hj => by rw [Nat.zero_add]; exact hw.1.cellAt (by rw [← Array.getElem?_toList]; exact hj)) Tryz.underlying25 rfl (by kernel_rfl)) (by assumption) ?_
  refine wpHd_take (i := 1) (v := ?_) (by kernel_rfl) rfl (by kernel_rfl) (fun _ _ _ h => h) (.inl ⟨by rfl, ?_⟩) hSS ?_
  rotate_left
  · intro w hSw; (try dsimp only at hSw); go_simp; (try with_reducible rfl)
  refine wpHd_take (i := 2) (v := .agg (cfgCells c (.slice B c.h.length cp2))) (by kernel_rfl) rfl (by kernel_rfl) (fun _ _ _ h => h) (yieldsIf_load_mid (by rfl) 25 _ rfl bb 0 rfl (cfgCells c (.slice B c.h.length cp2)).toList _ (fun w hw j v hj => by rw [Nat.zero_add]; exact hw.1.cellAt (by rw [← Array.getElem?_toList]; exact hj)) Tryz.underlying25 rfl (by kernel_rfl)) (by assumption) ?_
  refine wpHd_take (i := 3) (v := ?_) (by kernel_rfl) rfl (by kernel_rfl) (fun _ _ _ h => h) (.inl ⟨by rfl, ?_⟩) hSS ?_
  rotate_left
  · intro w hSw; (try dsimp only at hSw); go_simp; (try with_reducible rfl)
  try simp only [Act.put, List.getElem_toArray, List.getElem_cons_succ, List.getElem_cons_zero, List.setIfInBounds_toArray, List.set_cons_zero, List.set_cons_succ]
  refine wpHd_two (i := 4) (j := 5) rfl rfl (by kernel_rfl) (fun K hK => ?_) (fun K hK => ?_)
  · go_simp
    refine (HK.out W4.drew B c.h.length cp2 (HH4.out.keep ((Only.refl Non W4).drew))).mono ?_
    rintro e W5 ⟨i, rfl, hR, hF, ho5⟩
    have hO5 : Only Non W4 W5 := ((Only.refl Non W4).drew).trans ho5
    have hB5 := ho5.box hSS.1 id
    have HR5 := Lib.hid hR
    have HF5 := Lib.hid hF
    have HP5 := Lib.hid ho5
    clear hR hF ho5
    refine hK.out _ _ ?_ (fun hSS => ?_)
    · exact ⟨by first | exact hSS.1.alloc _ | exact hB5 | exact hB5.alloc _ | exact HB4.out, by first | exact hSS.2.alloc _ | exact hO5 | exact hO5.alloc _ | exact (Only.refl Non W4).drew⟩
    clear hK
    try simp only [Act.put, List.getElem_toArray, List.getElem_cons_succ, List.getElem_cons_zero, List.setIfInBounds_toArray, List.set_cons_zero, List.set_cons_succ]
    refine wpHd_one (i := 5) rfl (by kernel_rfl) (fun K hK => ?_)
    go_simp
    skip
    refine hK.out _ _ ?_ (fun hSS => ?_)
    · exact ⟨by first | exact hSS.1.alloc _ | exact hB5 | exact hB5.alloc _ | exact HB4.out, by first | exact hSS.2.alloc _ | exact hO5 | exact hO5.alloc _ | exact (Only.refl Non W4).drew⟩
    clear hK
    try simp only [Act.put, List.getElem_toArray, List.getElem_cons_succ, List.getElem_cons_zero, List.setIfInBounds_toArray, List.set_cons_zero, List.set_cons_succ]
    refine wpHd_end (by kernel_rfl) ?_
    have HM := Lib.hid (show MapI (W5.alloc (.map #[] 0)) W5.heap.size (vOf fun _ => none) from MapI.made W5)
    have hlt := (KO.oc i).lt HR5.out
    have ho6 : Only Non W5 (W5.alloc (.map #[] 0)) := (Only.refl Non W5).alloc _
    have HR6 := Lib.hid (show KO.R i KO.s0 (W5.alloc (.map #[] 0)) from (KO.oc i).only HR5.out ho6 fun _ _ => id)
    have HNM := Lib.hid (show ¬ KO.F i W5.heap.size from fun h => by have := hlt _ h; omega)
    have HFL := Lib.hid (show ∀ k, KO.F i k → W4.heap.size ≤ k from fun k hk => HF5.out k hk)
    have HMB := Lib.hid (show W4.heap.size ≤ W5.heap.size from HP5.out.size)
    have HO6 := Lib.hid hSS.2
    have HLT := Lib.hid (show ∀ k, KO.F i k → k < (W5.alloc (.map #[] 0)).heap.size from fun k hk => by have := hlt k hk; rw [World.size_alloc]; omega)
    clear hlt ho6 hSS hB5 hO5 HR5 HF5 HP5
    generalize (W5.alloc (.map #[] 0)) = W6 at *
    generalize W5.heap.size = mb at *
    refine wpList_build' rfl _ _ rfl [(0, .agg (cfgCells c (.slice B c.h.length cp2))), (1, .int .i64 tier), (2, .iface KO.t (KO.x i)), (3, .map (some mb))] _ ?_ (built_cch c (.slice B c.h.length cp2) B c.h.length cp2 tier KO.t (KO.x i) mb) ?_
    · simp [Act.eval]
    go_wp2
    go_ret2
    have hbx := Box.fresh W6 147 (cchCells c (.slice B c.h.length cp2) tier KO.t (KO.x i) mb)
    have hal : Only Non W6 (W6.alloc (.cells (cchCells c (.slice B c.h.length cp2) tier KO.t (KO.x i) mb) 147)) := (Only.refl _ _).alloc _
    have hs4 := HO4.out.size
    have hs6 := HO6.out.size
    refine ⟨i, W6.heap.size, mb, _, rfl, { box := hbx, ord := (KO.oc i).only HR6.out hal fun _ _ => id, map := HM.out.keep hal, keys := fun b => by rw [KO.nil]; simp, dat := fun b l v h => (by cases h), ncb := fun h => by have := HLT.out _ h; omega, nmb := HNM.out, right := HP.out, t1 := h1, t3 := h3, hin := ⟨B, c.h.length, cp2, rfl, HH4.out.keep (HO6.out.trans hal), fun h0 k hk => ?_⟩ }, fun k hk => Nat.le_trans hs4 (HFL.out k hk), Nat.le_trans hs4 hs6, Nat.le_trans hs4 HMB.out, fun h0 k hk => (HW.out h0 k hk).2, HO4.out.trans (HO6.out.trans hal)⟩
    have hk3 := (HW.out h0 k hk).1
    rw [← HSZ.out] at hk3
    refine ⟨fun h => by have := HFL.out k h; omega, by omega, fun e => by have := HMB.out; omega⟩
  · go_simp
    skip
    refine hK.out _ _ ?_ (fun hSS => ?_)
    · exact ⟨by first | exact hSS.1.alloc _ | exact hB5 | exact hB5.alloc _ | exact HB4.out, by first | exact hSS.2.alloc _ | exact hO5 | exact hO5.alloc _ | exact (Only.refl Non W4).drew⟩
    clear hK
    try simp only [Act.put, List.getElem_toArray, List.getElem_cons_succ, List.getElem_cons_zero, List.setIfInBounds_toArray, List.set_cons_zero, List.set_cons_succ]
    refine wpHd_one (i := 4) rfl (by kernel_rfl) (fun K hK => ?_)
    go_simp
    refine (HK.out (W4.drew.alloc (.map #[] 0)) B c.h.length cp2 (HH4.out.keep (((Only.refl Non W4).drew).alloc (.map #[] 0)))).mono ?_
    rintro e W5 ⟨i, rfl, hR, hF, ho5⟩
    have hO5 : Only Non W4 W5 := (((Only.refl Non W4).drew).alloc (.map #[] 0)).trans ho5
    have hB5 := ho5.box hSS.1 id
    have HR5 := Lib.hid hR
    have HF5 := Lib.hid hF
    have HP5 := Lib.hid ho5
    clear hR hF ho5
    refine hK.out _ _ ?_ (fun hSS => ?_)
    · exact ⟨by first | exact hSS.1.alloc _ | exact hB5 | exact hB5.alloc _ | exact HB4.out, by first | exact hSS.2.alloc _ | exact hO5 | exact hO5.alloc _ | exact (Only.refl Non W4).drew⟩
    clear hK
    try simp only [Act.put, List.getElem_toArray, List.getElem_cons_succ, List.getElem_cons_zero, List.setIfInBounds_toArray, List.set_cons_zero, List.set_cons_succ]
    refine wpHd_end (by kernel_rfl) ?_
    have HM := (show MapI W5 W4.heap.size (vOf fun _ => none) from (MapI.made W4.drew).keep HP5.out)
    have hlt := (KO.oc i).lt HR5.out
    have HR6 := HR5
    have HNM := (show ¬ KO.F i W4.heap.size from fun h => by have h1 := HF5.out _ h; rw [World.size_alloc] at h1; have h2 : W4.drew.heap.size = W4.heap.size := rfl; omega)
    have HFL := Lib.hid (show ∀ k, KO.F i k → W4.heap.size ≤ k from fun k hk => by have h1 := HF5.out _ hk; rw [World.size_alloc] at h1; have h2 : W4.drew.heap.size = W4.heap.size := rfl; omega)
    have HO6 := Lib.hid hSS.2
    have HLT := Lib.hid hlt
    clear hlt hSS hB5 hO5 HR5 HF5 HP5
    obtain ⟨mb, hmb⟩ : ∃ mb, mb = W4.heap.size := ⟨_, rfl⟩
    have HMB := Lib.hid (show W4.heap.size ≤ mb from Nat.le_of_eq hmb.symm)
    rw [← hmb] at HM HNM
    have HM := Lib.hid HM
    have HNM := Lib.hid HNM
    rw [← hmb]
    clear hmb
    generalize W5 = W6 at *
    refine wpList_build' rfl _ _ rfl [(0, .agg (cfgCells c (.slice B c.h.length cp2))), (1, .int .i64 tier), (2, .iface KO.t (KO.x i)), (3, .map (some mb))] _ ?_ (built_cch c (.slice B c.h.length cp2) B c.h.length cp2 tier KO.t (KO.x i) mb) ?_
    · simp [Act.eval]
    go_wp2
    go_ret2
    have hbx := Box.fresh W6 147 (cchCells c (.slice B c.h.length cp2) tier KO.t (KO.x i) mb)
    have hal : Only Non W6 (W6.alloc (.cells (cchCells c (.slice B c.h.length cp2) tier KO.t (KO.x i) mb) 147)) := (Only.refl _ _).alloc _
    have hs4 := HO4.out.size
    have hs6 := HO6.out.size
    refine ⟨i, W6.heap.size, mb, _, rfl, { box := hbx, ord := (KO.oc i).only HR6.out hal fun _ _ => id, map := HM.out.keep hal, keys := fun b => by rw [KO.nil]; simp, dat := fun b l v h => (by cases h), ncb := fun h => by have := HLT.out _ h; omega, nmb := HNM.out, right := HP.out, t1 := h1, t3 := h3, hin := ⟨B, c.h.length, cp2, rfl, HH4.out.keep (HO6.out.trans hal), fun h0 k hk => ?_⟩ }, fun k hk => Nat.le_trans hs4 (HFL.out k hk), Nat.le_trans hs4 hs6, Nat.le_trans hs4 HMB.out, fun h0 k hk => (HW.out h0 k hk).2, HO4.out.trans (HO6.out.trans hal)⟩
    have hk3 := (HW.out h0 k hk).1
    rw [← HSZ.out] at hk3
    refine ⟨fun h => by have := HFL.out k h; omega, by omega, fun e => by have := HMB.out; omega⟩
end
def putD (D : Int → Option Blk) (g : Bool) (v b : Int) (p : Blk) : Int → Option Blk := updI (if g = true then updI D v none else D) b (some p)
def victD (D : Int → Option Blk) (g : Bool) (v : Int) : Value := if g = true then ((D v).map Prod.snd).getD (.slice none 0 0) else .slice none 0 0
theorem vOf_set (D : Int → Option Blk) (b : Int) (p : Blk) : fSet (vOf D) b p.2 = vOf (updI D b (some p)) := by
  funext x
  unfold fSet vOf updI
  split <;> rfl
theorem vOf_del (D : Int → Option Blk) (b : Int) : fDel (vOf D) b = vOf (updI D b none) := by
  funext x
  unfold fDel vOf updI
  split <;> rfl
def CF2 (F : Nat → Prop) (mb : Nat) : Nat → Prop := fun k => F k ∨ k = mb
def PutPost (K : OKind) (i : K.ι) (cb mb : Nat) (c : CfgA) (hv : Value) (tier : Nat) (s : K.σ) (D : Int → Option Blk) (b : Int) (dl : List Int) (w : World) (e : Ending) (w' : World) : Prop :=
  ∃ vv, e = .returned (.tuple #[.agg #[.int .i64 (K.sp.add s b).2.1, victD D (K.sp.add s b).2.2 (K.sp.add s b).2.1], .bool (K.sp.add s b).2.2, .int .i64 0]) ∧
    CchB K i w' cb mb c hv tier (K.sp.add s b).1 (putD D (K.sp.add s b).2.2 (K.sp.add s b).2.1 b (dl, vv)) ∧ (∀ k, ownB vv k → w.heap.size ≤ k) ∧ Only (CF2 (K.F i) mb) w w'
theorem results_ctt {P : Program} {fn : Func} {p u v : Tmp} {ty : TypeId} (h : fn.results = #[.cell p ty, .tmp u, .tmp v]) (tmps : Array Value) (w : World) (g : Nat) (t : TypeId) (cs : Array Value) (fr : Nat × Nat) (d : TypeDesc)
    (hp : tmps.getD p undef = .pointer (some ⟨g, 0, none⟩)) (hg : w.heap[g]? = some (.cells cs t fr))
    (hu : P.underlying ty = some d) (hd : (match d with | .struct _ | .array _ _ => true | _ => false) = true) (hi : (P.info? ty).map (·.size) = some cs.size) :
    (results fn tmps).run P w = .ok (.tuple #[.agg cs, tmps.getD u undef, tmps.getD v undef]) w := by
  have hp' : tmps[p]?.getD undef = .pointer (some ⟨g, 0, none⟩) := by simpa using hp
  simp [results, h, hp', asAddr, run_loadVar_row w g t ty cs fr d hg hu hd hi]
theorem byt_lt {w : World} {v : Value} {l : List Int} (h : Byt w v l) (hl : 0 < l.length) : ∀ k, ownB v k → k < w.heap.size := by
  intro k hk
  obtain ⟨A, c, rfl, _, _, h3⟩ := h
  obtain ⟨g, o, rfl, hc⟩ := h3.at_ (i := 0) (by rw [List.length_map]; exact hl) undef
  rw [← ownB_slice.1 hk]
  exact World.block_lt_of_cell? w _ hc
theorem DatB.far {w w' : World} {cb mb : Nat} {F : Nat → Prop} {size : Int} {l : List Int} {v : Value} (h : DatB w cb mb F size l v) (ho : Only (CF2 F mb) w w') : DatB w' cb mb F size l v := by
  obtain ⟨h1, h2, g, ca, rfl, h3, h4, h5, h6⟩ := h
  exact ⟨h1, h2.only ho fun k hk e => by rw [← ownB_slice.1 hk] at e; exact e.elim h6 h5, g, ca, rfl, Nat.lt_of_lt_of_le h3 ho.size, h4, h5, h6⟩
theorem lawB : Tryz.prog.underlying 145 = some (.map 3 36) := Tryz.underlying145
def FrmRel (W4 : World) (mb rb : Nat) (D : Int → Option Blk) (g : Bool) (v : Int) (wx : World) : Prop :=
  Box wx rb 38 #[.int .i64 v, victD D g v] ∧ MapI wx mb (vOf (if g = true then updI D v none else D)) ∧ Only (fun k => k = mb ∨ k = rb) W4 wx
section
set_option maxHeartbeats 4000000
set_option maxRecDepth 100000
theorem cch_put {KO : OKind} {i : KO.ι} {w : World} {cb mb : Nat} {c : CfgA} {hv : Value} {tier : Nat} {s : KO.σ} {D : Int → Option Blk} (h : CchB KO i w cb mb c hv tier s D)
    {b : Int} {dl : List Int} {dv : Value} (hby : Byt w dv dl) (hdv : ∀ k, ownB dv k → ¬ KO.F i k ∧ k ≠ mb) (h0 : 0 ≤ b) (h1 : b < c.f 2) (hl : (dl.length : Int) = c.f 3) (level : Int)
    (HT : ∀ w', CchB KO i w' cb mb c hv tier s D → Calls Tryz.prog 30 #[.pointer (some ⟨cb, 0, none⟩), .int .i64 b, .int .i64 level] w' fun e w'' => e = .returned (.bool true) ∧ Only Non w' w'')
    (ht : KO.sp.takes b) (hage : KO.sp.age s < maxAge) :
    Calls Tryz.prog 81 #[.pointer (some ⟨cb, 0, none⟩), .agg #[.int .i64 b, dv], .int .i64 level] w (PutPost KO i cb mb c hv tier s D b dl w) := by
  obtain ⟨dA, dc, rfl, hdc, hdm, hsrc⟩ := id hby
  have hb64 : b < 64 := by have := h.right.p2; omega
  have HADD := Lib.hid fun W (hR : KO.R i s W) => (KO.oc i).add hR h0 hb64 ht hage
  have HLAW := Lib.hid ((KO.oc i).addL h.ord h0 hb64 ht)
  have HRG := Lib.hid fun (v : Int) (hv : v ∈ KO.sp.all s) => (KO.oc i).rng h.ord hv
  have HTH := fun W (hC : CchB KO i W cb mb c hv tier s D) => cch_there b hC
  rw [show (decide (0 ≤ b) && decide (b < c.f 2)) = true by simp [h0, h1]] at HTH
  have HTH := Lib.hid HTH
  have HTK := Lib.hid HT
  have H := Lib.hid h
  have HBY := Lib.hid hby
  have HDV := Lib.hid hdv
  have HDL := Lib.hid (show 0 < dl.length by have := h.right.p3; omega)
  have HDW := Lib.hid (byt_lt hby HDL.out)
  clear hdv
  have HL := Lib.hid hl
  have HB0 := Lib.hid (show 0 ≤ b ∧ b < 64 from ⟨h0, hb64⟩)
  clear HT ht hage h hby hl hsrc h0 h1 hb64 hdc hdm
  go_enter Tryz.func81, Tryz.ntmps81
  go_upto_region 1 with fail
  have hb1 := Box.fresh w 38 #[.int .i64 b, .slice dA dl.length dc]
  have hb2 := Box.fresh (w.alloc (.cells #[.int .i64 b, .slice dA dl.length dc] 38)) 38 #[.int .i64 0, .slice none 0 0]
  rw [World.size_alloc] at hb2
  have hb1 := hb1.alloc (.cells #[.int .i64 0, .slice none 0 0] 38)
  have ho1 := ((Only.refl Non w).alloc (.cells #[.int .i64 b, .slice dA dl.length dc] 38)).alloc (.cells #[.int .i64 0, .slice none 0 0] 38)
  have HO1 := Lib.hid ho1
  have H1 := Lib.hid (H.out.keep ho1)
  have HBY1 := Lib.hid (HBY.out.only ho1 fun _ _ => id)
  have hltF := (KO.oc i).lt H.out.ord
  have hcb := H.out.box.lt
  have hmb := H.out.map.lt
  have hnf : ¬ KO.F i w.heap.size := fun e => by have := hltF _ e; omega
  have hnv : ¬ KO.F i (w.heap.size + 1) := fun e => by have := hltF _ e; omega
  have hd1 : w.heap.size ≠ cb ∧ w.heap.size ≠ mb ∧ w.heap.size + 1 ≠ cb ∧ w.heap.size + 1 ≠ mb ∧ w.heap.size ≠ w.heap.size + 1 ∧ w.heap.size ≤ w.heap.size + 1 := ⟨by omega, by omega, by omega, by omega, by omega, by omega⟩
  have HNC := Lib.hid H.out.ncb
  have HNM := Lib.hid H.out.nmb
  change Code.wp _ _ _ _ ((w.alloc (.cells #[.int .i64 b, .slice dA dl.length dc] 38)).alloc (.cells #[.int .i64 0, .slice none 0 0] 38))
  clear ho1 hltF hcb hmb HBY
  generalize (w.alloc (.cells #[.int .i64 b, .slice dA dl.length dc] 38)).alloc (.cells #[.int .i64 0, .slice none 0 0] 38) = W1 at *
  obtain ⟨fb, hfb⟩ : ∃ fb, fb = w.heap.size := ⟨_, rfl⟩
  obtain ⟨rb, hrb⟩ : ∃ rb, rb = w.heap.size + 1 := ⟨_, rfl⟩
  have HSZ := Lib.hid (show w.heap.size ≤ fb ∧ w.heap.size ≤ rb from ⟨by omega, by omega⟩)
  rw [← hrb] at hb2 hnv hd1
  rw [← hfb] at hb1 hnf hd1
  rw [← hrb, ← hfb]
  clear hfb hrb
  have HF1 := Lib.hid hb1
  have HV1 := Lib.hid hb2
  have HNF := Lib.hid hnf
  have HNV := Lib.hid hnv
  have HD := Lib.hid hd1
  clear hb1 hb2 hnf hnv hd1
  have f0 : W1.cell? ⟨fb, 0, none⟩ = some (.int .i64 b) := HF1.out.cellAt rfl
  have f1 : W1.cell? ⟨fb, 1, none⟩ = some (.slice dA dl.length dc) := HF1.out.cellAt rfl
  have s3 : W1.cell? ⟨cb, 3, none⟩ = some (.int .i64 dl.length) := by rw [HL.out]; exact H1.out.box.cellAt (cch_f _ _ _ _ _ _ (by decide))
  go_upto_region 5 with (go_at_call 100; refine (HTH.out W1 H1.out).mono ?_; rintro e W ⟨rfl, rfl⟩)
  refine wp_region_tail (S := (fun w' : World => w' = W1.drew)) 9 (by kernel_rfl) (by kernel_rfl) ?_ ?_
  · rfl
  intro hSS
  refine wpHd_take (i := 0) (v := ?_) (by kernel_rfl) rfl (by kernel_rfl) (fun _ _ _ h => h) (.inl ⟨by rfl, ?_⟩) hSS ?_
  rotate_left
  · intro w hSw; (try dsimp only at hSw); go_simp; (try with_reducible rfl)
  refine wpHd_take (i := 1) (v := ?_) (by kernel_rfl) rfl (by kernel_rfl) (fun _ _ _ h => h) (.inl ⟨by rfl, ?_⟩) hSS ?_
  rotate_left
  · intro w hSw; (try dsimp only at hSw); go_simp; (try with_reducible rfl)
  refine wpHd_take (i := 2) (v := ?_) (by kernel_rfl) rfl (by kernel_rfl) (fun _ _ _ h => h) (.inl ⟨by rfl, ?_⟩) hSS ?_
  rotate_left
  · intro w hSw; (try dsimp only at hSw); go_simp; (try with_reducible rfl)
  refine wpHd_take (i := 3) (v := ?_) (by kernel_rfl) rfl (by kernel_rfl) (fun _ _ _ h => h) (.inl ⟨by rfl, ?_⟩) hSS ?_
  rotate_left
  · intro w hSw; (try dsimp only at hSw); go_simp; (try with_reducible rfl)
  refine wpHd_take (i := 4) (v := ?_) (by kernel_rfl) rfl (by kernel_rfl) (fun _ _ _ h => h) (.inl ⟨by rfl, ?_⟩) hSS ?_
  rotate_left
  · intro w hSw; (try dsimp only at hSw); go_simp; (try with_reducible rfl)
  try simp only [Act.put, List.getElem_toArray, List.getElem_cons_succ, List.getElem_cons_zero, List.setIfInBounds_toArray, List.set_cons_zero, List.set_cons_succ]
  refine wpHd_take (i := 5) (v := ?_) (by kernel_rfl) rfl (by kernel_rfl) (fun _ _ _ h => h) (.inl ⟨by rfl, ?_⟩) hSS ?_
  rotate_left
  · intro w hSw; (try dsimp only at hSw); go_simp; (try with_reducible rfl)
  refine wpHd_take (i := 6) (v := ?_) (by kernel_rfl) rfl (by kernel_rfl) (fun _ _ _ h => h) (.inl ⟨by rfl, ?_⟩) hSS ?_
  rotate_left
  · intro w hSw; (try dsimp only at hSw); go_simp; (try with_reducible rfl)
  refine wpHd_take (i := 7) (v := ?_) (by kernel_rfl) rfl (by kernel_rfl) (fun _ _ _ h => h) (.inl ⟨by rfl, ?_⟩) hSS ?_
  rotate_left
  · intro w hSw; (try dsimp only at hSw); go_simp; (try with_reducible rfl)
  refine wpHd_take (i := 8) (v := ?_) (by kernel_rfl) rfl (by kernel_rfl) (fun _ _ _ h => h) (.inl ⟨by rfl, ?_⟩) hSS ?_
  rotate_left
  · intro w hSw; (try dsimp only at hSw); go_simp; (try with_reducible rfl)
  try simp only [Act.put, List.getElem_toArray, List.getElem_cons_succ, List.getElem_cons_zero, List.setIfInBounds_toArray, List.set_cons_zero, List.set_cons_succ]
  refine wpHd_end (by kernel_rfl) ?_
  clear hSS HTH
  go_upto_region 7 with fail
  have H2 := Lib.hid (show CchB KO i W1.drew cb mb c hv tier s D from H1.out.keep ((Only.refl Non W1).drew))
  have HF2 := Lib.hid (show Box W1.drew fb 38 #[.int .i64 b, .slice dA dl.length dc] from HF1.out)
  have HV2 := Lib.hid (show Box W1.drew rb 38 #[.int .i64 0, .slice none 0 0] from HV1.out)
  have HBY2 := Lib.hid (show Byt W1.drew (.slice dA dl.length dc) dl from HBY1.out)
  have HO2 := Lib.hid HO1.out.drew
  clear f0 f1 s3 H1 HF1 HV1 HBY1 HO1
  generalize W1.drew = W2 at *
  have f0 : W2.cell? ⟨fb, 0, none⟩ = some (.int .i64 b) := HF2.out.cellAt rfl
  go_upto_region 9 with (go_at_call 30; refine (HTK.out W2 H2.out).mono ?_; rintro e W3 ⟨rfl, ho3⟩)
  have H3 := Lib.hid (H2.out.keep ho3)
  have HF3 := Lib.hid (ho3.box HF2.out id)
  have HV3 := Lib.hid (ho3.box HV2.out id)
  have HBY3 := Lib.hid (HBY2.out.only ho3 fun _ _ => id)
  have HO3 := Lib.hid (HO2.out.trans ho3)
  clear ho3 f0 H2 HF2 HV2 HBY2 HO2 HTK
  have k1 : W3.drew.cell? ⟨cb, 18, none⟩ = some (.iface KO.t (KO.x i)) := H3.out.box.cellAt (cch_o _ _ _ _ _ _)
  have k2 : W3.drew.cell? ⟨fb, 0, none⟩ = some (.int .i64 b) := HF3.out.cellAt rfl
  have HR3 := Lib.hid (show KO.R i s W3.drew from (KO.oc i).only H3.out.ord ((Only.refl Non W3).drew) fun _ _ => id)
  have hm := (KO.oc i).dadd.m
  have he := (KO.oc i).dadd.e
  refine wp_region_tail (S := (fun w' : World => w'.cell? ⟨cb, 18, none⟩ = some (.iface KO.t (KO.x i)) ∧ w'.cell? ⟨fb, 0, none⟩ = some (.int .i64 b))) 13 (by kernel_rfl) (by kernel_rfl) ?_ ?_
  · exact ⟨by assumption, by assumption⟩
  intro hSS
  refine wpHd_take (i := 0) (v := ?_) (by kernel_rfl) rfl (by kernel_rfl) (fun _ _ _ h => h) (.inl ⟨by rfl, ?_⟩) hSS ?_
  rotate_left
  · intro w hSw; (try dsimp only at hSw); go_simp; (try with_reducible rfl)
  refine wpHd_take (i := 1) (v := ?_) (by kernel_rfl) rfl (by kernel_rfl) (fun _ _ _ h => h) (.inl ⟨by rfl, ?_⟩) hSS ?_
  rotate_left
  · intro w hSw; (try dsimp only at hSw); go_simp; (try with_reducible rfl)
  refine wpHd_take (i := 2) (v := ?_) (by kernel_rfl) rfl (by kernel_rfl) (fun _ _ _ h => h) (.inl ⟨by rfl, ?_⟩) hSS ?_
  rotate_left
  · intro w hSw; (try dsimp only at hSw); go_simp; (try with_reducible rfl)
  refine wpHd_take (i := 3) (v := ?_) (by kernel_rfl) rfl (by kernel_rfl) (fun _ _ _ h => h) (.inl ⟨by rfl, ?_⟩) hSS ?_
  rotate_left
  · intro w hSw; (try dsimp only at hSw); go_simp; (try with_reducible rfl)
  refine wpHd_take (i := 4) (v := ?_) (by kernel_rfl) rfl (by kernel_rfl) (fun _ _ _ h => h) (.inl ⟨by rfl, ?_⟩) hSS ?_
  rotate_left
  · intro w hSw; (try dsimp only at hSw); go_simp; (try with_reducible rfl)
  try simp only [Act.put, List.getElem_toArray, List.getElem_cons_succ, List.getElem_cons_zero, List.setIfInBounds_toArray, List.set_cons_zero, List.set_cons_succ]
  refine wpHd_take (i := 5) (v := ?_) (by kernel_rfl) rfl (by kernel_rfl) (fun _ _ _ h => h) (.inl ⟨by rfl, ?_⟩) hSS ?_
  rotate_left
  · intro w hSw; (try dsimp only at hSw); go_simp; (try with_reducible rfl)
  try simp only [Act.put, List.getElem_toArray, List.getElem_cons_succ, List.getElem_cons_zero, List.setIfInBounds_toArray, List.set_cons_zero, List.set_cons_succ]
  refine wpHd_one (i := 6) rfl (by kernel_rfl) (fun K hK => ?_)
  go_simp
  refine (HADD.out W3.drew HR3.out).mono ?_
  rintro e W4 ⟨rfl, hr4, ho4⟩
  have HR4 := Lib.hid hr4
  have HO4 := Lib.hid ho4
  have k1 := ho4.cell hSS.1 HNC.out
  have k2 := ho4.cell hSS.2 HNF.out
  clear hr4 ho4
  refine hK.out _ _ ?_ (fun hSS => ?_)
  · exact ⟨by assumption, by assumption⟩
  clear hK
  refine wpHd_take (i := 7) (v := ?_) (by kernel_rfl) rfl (by kernel_rfl) (fun _ _ _ h => h) (.inl ⟨by rfl, ?_⟩) hSS ?_
  rotate_left
  · intro w hSw; (try dsimp only at hSw); go_simp; (try with_reducible rfl)
  refine wpHd_take (i := 8) (v := ?_) (by kernel_rfl) rfl (by kernel_rfl) (fun _ _ _ h => h) (.inl ⟨by rfl, ?_⟩) hSS ?_
  rotate_left
  · intro w hSw; (try dsimp only at hSw); go_simp; (try with_reducible rfl)
  refine wpHd_take (i := 9) (v := ?_) (by kernel_rfl) rfl (by kernel_rfl) (fun _ _ _ h => h) (.inl ⟨by rfl, ?_⟩) hSS ?_
  rotate_left
  · intro w hSw; (try dsimp only at hSw); go_simp; (try with_reducible rfl)
  refine wpHd_take (i := 10) (v := ?_) (by kernel_rfl) rfl (by kernel_rfl) (fun _ _ _ h => h) (.inl ⟨by rfl, ?_⟩) hSS ?_
  rotate_left
  · intro w hSw; (try dsimp only at hSw); go_simp; (try with_reducible rfl)
  refine wpHd_take (i := 11) (v := ?_) (by kernel_rfl) rfl (by kernel_rfl) (fun _ _ _ h => h) (.inl ⟨by rfl, ?_⟩) hSS ?_
  rotate_left
  · intro w hSw; (try dsimp only at hSw); go_simp; (try with_reducible rfl)
  try simp only [Act.put, List.getElem_toArray, List.getElem_cons_succ, List.getElem_cons_zero, List.setIfInBounds_toArray, List.set_cons_zero, List.set_cons_succ]
  refine wpHd_take (i := 12) (v := ?_) (by kernel_rfl) rfl (by kernel_rfl) (fun _ _ _ h => h) (.inl ⟨by rfl, ?_⟩) hSS ?_
  rotate_left
  · intro w hSw; (try dsimp only at hSw); go_simp; (try with_reducible rfl)
  try simp only [Act.put, List.getElem_toArray, List.getElem_cons_succ, List.getElem_cons_zero, List.setIfInBounds_toArray, List.set_cons_zero, List.set_cons_succ]
  refine wpHd_end (by kernel_rfl) ?_
  clear hSS k1 k2 HR3 HADD hm he
  have HKEYS := Lib.hid H3.out.keys
  have HDAT := Lib.hid H3.out.dat
  have HCH := Lib.hid (show CchB KO i W3.drew cb mb c hv tier s D from H3.out.keep ((Only.refl Non W3).drew))
  have HB4 := Lib.hid (HO4.out.box HCH.out.box HNC.out)
  have HM4 := Lib.hid (HCH.out.map.only HO4.out HNM.out)
  have HF4 := Lib.hid (HO4.out.box (show Box W3.drew fb 38 #[.int .i64 b, .slice dA dl.length dc] from HF3.out) HNF.out)
  have HV4 := Lib.hid (HO4.out.box (show Box W3.drew rb 38 #[.int .i64 0, .slice none 0 0] from HV3.out) HNV.out)
  have HBY4 := Lib.hid ((show Byt W3.drew (.slice dA dl.length dc) dl from HBY3.out).only HO4.out fun k hk => (HDV.out k hk).1)
  have HO14 := Lib.hid ((HO3.out.drew.mono (S' := CF2 (KO.F i) mb) fun k h => h.elim).trans' HO4.out fun k hk => .inl (.inl hk))
  clear HF3 HV3 HBY3
  clear H3 HO3 HO4
  generalize hg1 : (KO.sp.add s b).1 = s' at *
  generalize hg2 : (KO.sp.add s b).2.1 = v at *
  generalize hg3 : (KO.sp.add s b).2.2 = g at *
  have HG1 := Lib.hid hg1
  have HG2 := Lib.hid hg2
  have HG3 := Lib.hid hg3
  clear hg1 hg2 hg3
  have m19 : W4.cell? ⟨cb, 19, none⟩ = some (.map (some mb)) := HB4.out.cellAt (cch_m _ _ _ _ _ _)
  go_upto_if 55 with fail
  go_cut [] (fun wx => FrmRel W4 mb rb D g v wx)
  case first =>
    cases g with
    | false =>
      have hv0 : v = 0 := HLAW.out.elim (fun h => h.2.1) fun h => (by cases h.1)
      have HV0 := Lib.hid hv0
      clear hv0
      go_wp2
      go_meet
      case rel => exact ⟨by rw [HV0.out]; exact HV4.out, HM4.out, Only.refl _ _⟩
    | true =>
      have hlaw : v ∈ KO.sp.all s := HLAW.out.elim (fun h => (by cases h.1)) fun h => h.2.1
      have hvr := HRG.out v hlaw
      obtain ⟨⟨l0, v0⟩, hDv⟩ := Option.isSome_iff_exists.1 ((HKEYS.out v).2 hlaw)
      obtain ⟨_, _, g0, ca0, e0, _⟩ := HDAT.out v l0 v0 hDv
      subst e0
      have hI : I64 v := ⟨by omega, by omega⟩
      have hvof : vOf D v = some (.slice (some ⟨g0, 0, none⟩) l0.length ca0) := by unfold vOf; rw [hDv]; rfl
      have hlk := run_look_i (P := Tryz.prog) HM4.out lawB Tryz.underlying3 (z := .slice none 0 0) (by kernel_rfl) hI
      rw [hvof] at hlk
      have hlk : (Instr.lookup 145 (.map (some mb)) (.int .i64 v) false).run Tryz.prog W4 = .ok (.slice (some ⟨g0, 0, none⟩) l0.length ca0) W4 := hlk
      have HI := Lib.hid hI
      have HVD := Lib.hid (show victD D true v = .slice (some ⟨g0, 0, none⟩) l0.length ca0 by unfold victD; rw [if_pos rfl, hDv]; rfl)
      clear hlaw hvr hDv hI hvof
      go_upto_region 14 with (refine wpList_store_row rfl 38 _ _ rfl rb #[.int .i64 v, .slice (some ⟨g0, 0, none⟩) l0.length ca0] rfl rfl 38 _ HV4.out (by kernel_rfl) rfl (by simp [Value.oneCell']) ?_)
      have ho5 : Only (fun k => k = mb ∨ k = rb) W4 (W4.setRow rb #[.int .i64 v, .slice (some ⟨g0, 0, none⟩) l0.length ca0]) := (Only.refl _ _).setRow' (.inl (.inr rfl)) _
      have hv5 := HV4.out.setRow' #[.int .i64 v, .slice (some ⟨g0, 0, none⟩) l0.length ca0]
      have hm5 : MapI (W4.setRow rb #[.int .i64 v, .slice (some ⟨g0, 0, none⟩) l0.length ca0]) mb (vOf D) := HM4.out.only (((Only.refl (Just rb) W4).setRow' (.inl (show Just rb rb from rfl)) _)) fun e => HD.out.2.2.2.1 (show mb = rb from e).symm
      have hb5 := (((Only.refl (Just rb) W4).setRow' (.inl (show Just rb rb from rfl)) #[.int .i64 v, .slice (some ⟨g0, 0, none⟩) l0.length ca0])).box HB4.out fun e => HD.out.2.2.1 (show cb = rb from e).symm
      have HO5 := Lib.hid ho5
      have HV5 := Lib.hid hv5
      have HM5 := Lib.hid hm5
      have m19' : (W4.setRow rb #[.int .i64 v, .slice (some ⟨g0, 0, none⟩) l0.length ca0]).cell? ⟨cb, 19, none⟩ = some (.map (some mb)) := hb5.cellAt (cch_m _ _ _ _ _ _)
      clear ho5 hv5 hm5 hb5 m19 hlk
      generalize W4.setRow rb #[.int .i64 v, .slice (some ⟨g0, 0, none⟩) l0.length ca0] = W5 at *
      obtain ⟨u5, W6, hrun, hm6, ho6⟩ := run_delete_i (P := Tryz.prog) HM5.out lawB Tryz.underlying3 HI.out 0
      have HM6 := Lib.hid hm6
      have HO6 := Lib.hid ho6
      clear hm6 ho6
      go_wp2
      go_meet
      case rel =>
        refine ⟨?_, ?_, HO5.out.trans' HO6.out fun k hk => .inl (.inl hk)⟩
        · rw [HVD.out]; exact HO6.out.box HV5.out fun e => HD.out.2.2.2.1 (show rb = mb from e)
        · rw [if_pos rfl, ← vOf_del]; exact HM6.out
  case rest =>
    obtain ⟨hv5, hm5, ho5⟩ := hcut
    obtain ⟨W5, e5⟩ : ∃ W5, W5 = wc := ⟨_, rfl⟩
    subst e5
    have hcm := H.out.cm
    have HV5 := Lib.hid hv5
    have HM5 := Lib.hid hm5
    have HO5 := Lib.hid ho5
    have HB5 := Lib.hid (ho5.box HB4.out fun e => e.elim hcm fun e => HD.out.2.2.1 e.symm)
    have HF5 := Lib.hid (ho5.box HF4.out fun e => e.elim HD.out.2.1 HD.out.2.2.2.2.1)
    have hdr : ∀ k, ownB (.slice dA dl.length dc) k → ¬ (k = mb ∨ k = rb) := fun k hk e => e.elim (HDV.out k hk).2 fun e => by have := HDW.out k hk; have := HSZ.out.2; omega
    have HBY5 := Lib.hid (show Byt W5.drew (.slice dA dl.length dc) dl from HBY4.out.only ho5.drew hdr)
    clear hv5 hm5 ho5 hcm hdr HB4 HM4 HF4 HV4 HBY4 m19
    have k1 : W5.drew.cell? ⟨cb, 19, none⟩ = some (.map (some mb)) := HB5.out.cellAt (cch_m _ _ _ _ _ _)
    have k2 : W5.drew.cell? ⟨fb, 0, none⟩ = some (.int .i64 b) := HF5.out.cellAt rfl
    have k3 : W5.drew.cell? ⟨fb, 1, none⟩ = some (.slice dA dl.length dc) := HF5.out.cellAt rfl
    have HI := Lib.hid (show I64 b from ⟨by have := HB0.out; omega, by have := HB0.out; omega⟩)
    go_upto_region 15 with fail
    refine wp_region_tail (S := (fun w' : World => w'.cell? ⟨cb, 19, none⟩ = some (.map (some mb)) ∧ w'.cell? ⟨fb, 0, none⟩ = some (.int .i64 b) ∧ w'.cell? ⟨fb, 1, none⟩ = some (.slice dA dl.length dc))) 9 (by kernel_rfl) (by kernel_rfl) ?_ ?_
    · exact ⟨by assumption, by assumption, by assumption⟩
    intro hSS
    refine wpHd_take (i := 0) (v := ?_) (by kernel_rfl) rfl (by kernel_rfl) (fun _ _ _ h => h) (.inl ⟨by rfl, ?_⟩) hSS ?_
    rotate_left
    · intro w hSw; (try dsimp only at hSw); go_simp; (try with_reducible rfl)
    refine wpHd_take (i := 1) (v := ?_) (by kernel_rfl) rfl (by kernel_rfl) (fun _ _ _ h => h) (.inl ⟨by rfl, ?_⟩) hSS ?_
    rotate_left
    · intro w hSw; (try dsimp only at hSw); go_simp; (try with_reducible rfl)
    refine wpHd_take (i := 2) (v := ?_) (by kernel_rfl) rfl (by kernel_rfl) (fun _ _ _ h => h) (.inl ⟨by rfl, ?_⟩) hSS ?_
    rotate_left
    · intro w hSw; (try dsimp only at hSw); go_simp; (try with_reducible rfl)
    refine wpHd_take (i := 3) (v := ?_) (by kernel_rfl) rfl (by kernel_rfl) (fun _ _ _ h => h) (.inl ⟨by rfl, ?_⟩) hSS ?_
    rotate_left
    · intro w hSw; (try dsimp only at hSw); go_simp; (try with_reducible rfl)
    refine wpHd_take (i := 4) (v := ?_) (by kernel_rfl) rfl (by kernel_rfl) (fun _ _ _ h => h) (.inl ⟨by rfl, ?_⟩) hSS ?_
    rotate_left
    · intro w hSw; (try dsimp only at hSw); go_simp; (try with_reducible rfl)
    try simp only [Act.put, List.getElem_toArray, List.getElem_cons_succ, List.getElem_cons_zero, List.setIfInBounds_toArray, List.set_cons_zero, List.set_cons_succ]
    refine wpHd_take (i := 5) (v := ?_) (by kernel_rfl) rfl (by kernel_rfl) (fun _ _ _ h => h) (.inl ⟨by rfl, ?_⟩) hSS ?_
    rotate_left
    · intro w hSw; (try dsimp only at hSw); go_simp; (try with_reducible rfl)
    refine wpHd_take (i := 6) (v := ?_) (by kernel_rfl) rfl (by kernel_rfl) (fun _ _ _ h => h) (.inl ⟨by rfl, ?_⟩) hSS ?_
    rotate_left
    · intro w hSw; (try dsimp only at hSw); go_simp; (try with_reducible rfl)
    refine wpHd_take (i := 7) (v := ?_) (by kernel_rfl) rfl (by kernel_rfl) (fun _ _ _ h => h) (.inl ⟨by rfl, ?_⟩) hSS ?_
    rotate_left
    · intro w hSw; (try dsimp only at hSw); go_simp; (try with_reducible rfl)
    try simp only [Act.put, List.getElem_toArray, List.getElem_cons_succ, List.getElem_cons_zero, List.setIfInBounds_toArray, List.set_cons_zero, List.set_cons_succ]
    refine wpHd_one (i := 8) rfl (by kernel_rfl) (fun K hK => ?_)
    go_simp
    refine (clone_any _ dl W5.drew HBY5.out).mono ?_
    rintro e W6 ⟨vv, rfl, hrow6, ho6, hnew6⟩
    have HV6 := Lib.hid hrow6
    have HO6 := Lib.hid ho6
    have HN6 := Lib.hid hnew6
    have k1 := ho6.cell hSS.1 id
    have k2 := ho6.cell hSS.2.1 id
    have k3 := ho6.cell hSS.2.2 id
    clear hrow6 ho6 hnew6
    refine hK.out _ _ ?_ (fun hSS => ?_)
    · exact ⟨by assumption, by assumption, by assumption⟩
    clear hK
    try simp only [Act.put, List.getElem_toArray, List.getElem_cons_succ, List.getElem_cons_zero, List.setIfInBounds_toArray, List.set_cons_zero, List.set_cons_succ]
    refine wpHd_end (by kernel_rfl) ?_
    clear hSS k1 k2 k3
    have HO56 := Lib.hid ((Only.refl Non W5).drew.trans HO6.out)
    have HM6 := Lib.hid (HM5.out.keep HO56.out)
    refine wpList_put_i W6 rfl _ _ _ rfl lawB Tryz.underlying3 mb (vOf (if g = true then updI D v none else D)) b vv rfl rfl rfl HM6.out HI.out ?_
    intro W7 hm7 ho7
    have HM7 := Lib.hid hm7
    have HO7 := Lib.hid ho7
    have HV7 := Lib.hid (ho7.box (HO56.out.box HV5.out id) fun e => HD.out.2.2.2.1 (show rb = mb from e))
    have HVO := Lib.hid (show (victD D g v).oneCell' = true by
      cases g with
      | false => rfl
      | true =>
        unfold victD
        rw [if_pos rfl]
        cases hDv : D v with
        | none => rfl
        | some p =>
          obtain ⟨l0, v0⟩ := p
          obtain ⟨_, _, g0, ca0, e0, _⟩ := HDAT.out v l0 v0 hDv
          subst e0
          rfl)
    clear hm7 ho7 HM6 HI
    generalize hvd : victD D g v = vd at *
    have HVD := Lib.hid hvd
    clear hvd
    go_wp2_with (first | (refine wpList_load_row rfl 38 _ rfl rb rfl 38 #[.int .i64 v, vd] (0, 0) _ HV7.out Tryz.underlying38 rfl (by kernel_rfl) ?_) | (refine wpList_store_row rfl 38 _ _ rfl rb #[.int .i64 v, vd] rfl rfl 38 _ HV7.out (by kernel_rfl) rfl (by have := HVO.out; simp [Value.oneCell'] at this ⊢; exact this) ?_))
    have ho78 : Only (Just rb) W7 (W7.setRow rb #[.int .i64 v, vd]) := (Only.refl (Just rb) W7).setRow' (.inl (show Just rb rb from rfl)) _
    have hv8 := HV7.out.setRow' #[.int .i64 v, vd]
    generalize W7.setRow rb #[.int .i64 v, vd] = W8 at *
    refine bodyPost_ret (results_ctt rfl _ _ rb _ #[.int .i64 v, vd] (0, 0) _ rfl hv8 Tryz.underlying38 rfl (by kernel_rfl)) rfl ?_
    have ho68 : Only (fun k => k = mb ∨ k = rb) W6 W8 := (HO7.out.mono (S' := fun k => k = mb ∨ k = rb) fun k hk => .inl (.inl hk)).trans' ho78 fun k hk => .inl (.inr hk)
    have ho48 : Only (fun k => k = mb ∨ k = rb) W4 W8 := (HO5.out.transN HO56.out).trans ho68
    have how8 : Only (CF2 (KO.F i) mb) w W8 := HO14.out.trans' ho48 fun k hk => hk.elim (fun e => .inl (.inr e)) fun e => .inr (by have := HSZ.out.2; omega)
    have hs5 := HO5.out.size
    have hs6 := HO56.out.size
    have hs8 := ho68.size
    have hmb := HM5.out.lt
    have hcb := HB5.out.lt
    have hrb := HV5.out.lt
    have hdsz : W5.drew.heap.size = W5.heap.size := rfl
    have hnew : DatB W8 cb mb (KO.F i) (c.f 3) dl vv := by
      have hn6 := HN6.out
      have hby6 : Byt W6 vv dl := HV6.out.byt (by have := H.out.right.p3; have := HL.out; omega)
      have hsh := HV6.out
      rcases hsh with ⟨_, e⟩ | ⟨g9, cap9, cur9, rfl, hb9, _⟩
      · have := HDL.out
        have : dl = [] := by simpa [bytes] using e
        rw [this] at HDL
        exact absurd HDL.out (Nat.lt_irrefl _)
      · have h9 := hn6 g9 (ownB_slice.2 rfl)
        have hl9 := hb9.lt
        rw [show (bytes dl).length = dl.length by simp [bytes]] at hby6 ⊢
        refine ⟨HL.out, RowB.only ⟨hby6, fun k hk => ⟨cur9, by rw [← ownB_slice.1 hk]; exact hb9⟩⟩ ho68 fun k hk e => ?_, g9, cap9, rfl, by omega, by omega, by omega, fun e => ?_⟩
        · have := ownB_slice.1 hk
          rcases e with e | e <;> omega
        · have := (KO.oc i).lt HR4.out g9 e
          omega
    refine ⟨vv, by rw [HG2.out, HG3.out, HVD.out]; rfl, ?_, fun k hk => ?_, how8⟩
    · rw [HG1.out, HG2.out, HG3.out]
      refine { box := how8.box H.out.box (fun e => e.elim HNC.out H.out.cm), ord := (KO.oc i).only HR4.out ho48 fun k hk e => ?_, map := ?_, keys := fun y => ?_, dat := fun y l' v' hy => ?_, ncb := HNC.out, nmb := HNM.out, right := H.out.right, t1 := H.out.t1, t3 := H.out.t3, hin := ?_ }
      · rcases e with rfl | rfl
        · exact HNM.out hk
        · exact HNV.out hk
      · have hm8 := HM7.out.only ho78 fun e => HD.out.2.2.2.1 (show mb = rb from e).symm
        rw [vOf_set (if g = true then updI D v none else D) b (dl, vv)] at hm8
        exact hm8
      · unfold putD updI
        by_cases e : y = b
        · rw [if_pos e]
          refine ⟨fun _ => ?_, fun _ => rfl⟩
          rcases HLAW.out with ⟨_, _, h9⟩ | ⟨_, _, _, h9⟩
          · exact (h9 y).2 (.inl e)
          · exact (h9 y).2 (.inl e)
        · rw [if_neg e]
          rcases HLAW.out with ⟨hg, _, h9⟩ | ⟨hg, _, _, h9⟩
          · rw [hg, if_neg (by simp), h9 y, HKEYS.out y]
            exact ⟨.inr, fun h => h.resolve_left e⟩
          · rw [hg, if_pos rfl, h9 y]
            by_cases e2 : y = v
            · subst e2; simp [e]
            · rw [if_neg e2, HKEYS.out y]
              exact ⟨fun h => .inr ⟨h, e2⟩, fun h => (h.resolve_left e).1⟩
      · unfold putD updI at hy
        split at hy
        · injection hy with hy
          injection hy with h8 h9
          rw [← h8, ← h9]
          exact hnew
        · cases g with
          | false => exact (H.out.dat y l' v' hy).far how8
          | true =>
            rw [if_pos rfl] at hy
            split at hy
            · cases hy
            · exact (H.out.dat y l' v' hy).far how8
      · obtain ⟨hA, hn9, hcp, e9, h8, h9⟩ := H.out.hin
        exact ⟨hA, hn9, hcp, e9, h8.far how8 fun h0 k hk e => by
          have := h9 h0 k (e9 ▸ hk)
          exact e.elim this.1 this.2.2, h9⟩
    · have := HN6.out k hk
      have := HO14.out.size
      omega
end
section
variable {K : OKind} {i : K.ι} {w w' : World} {cb mb : Nat} {c : CfgA} {hv : Value} {tier : Nat} {s s' : K.σ} {D : Int → Option Blk}
theorem CchB.turn (h : CchB K i w cb mb c hv tier s D) (hR : K.R i s' w') (ho : Only (K.F i) w w') (hk : ∀ y, y ∈ K.sp.all s' ↔ y ∈ K.sp.all s) : CchB K i w' cb mb c hv tier s' D where
  box := ho.box h.box h.ncb
  ord := hR
  map := h.map.only ho h.nmb
  keys := fun b => (h.keys b).trans (hk b).symm
  dat := fun b l v hb => (h.dat b l v hb).far (ho.mono fun k hk => .inl (.inl hk))
  ncb := h.ncb
  nmb := h.nmb
  right := h.right
  t1 := h.t1
  t3 := h.t3
  hin := by
    obtain ⟨A, n, cp, e, h8, h9⟩ := h.hin
    exact ⟨A, n, cp, e, h8.far ho fun h0 k hk => (h9 h0 k (e ▸ hk)).1, h9⟩
theorem CchB.off {S : Nat → Prop} (h : CchB K i w cb mb c hv tier s D) (ho : Only S w w') (h1 : ∀ k, K.F i k → ¬ S k) (h2 : ¬ S cb) (h3 : ¬ S mb) (h4 : ∀ b l v, D b = some (l, v) → ∀ k, ownB v k → ¬ S k) (h5 : 0 < c.h.length → ∀ k, ownB hv k → ¬ S k) : CchB K i w' cb mb c hv tier s D where
  box := ho.box h.box h2
  ord := (K.oc i).only h.ord ho h1
  map := h.map.only ho h3
  keys := h.keys
  dat := fun b l v hb => by
    have h9 := h4 b l v hb
    obtain ⟨a1, a2, g, ca, rfl, a3, a4⟩ := h.dat b l v hb
    exact ⟨a1, a2.only ho h9, g, ca, rfl, Nat.lt_of_lt_of_le a3 ho.size, a4⟩
  ncb := h.ncb
  nmb := h.nmb
  right := h.right
  t1 := h.t1
  t3 := h.t3
  hin := by
    obtain ⟨A, n, cp, e, h8, h9⟩ := h.hin
    exact ⟨A, n, cp, e, h8.far ho fun h0 k hk => h5 h0 k (e ▸ hk), h9⟩
theorem CchB.ltD (h : CchB K i w cb mb c hv tier s D) {b : Int} {l : List Int} {v : Value} (hb : D b = some (l, v)) : ∀ k, ownB v k → k < w.heap.size := fun k hk => by
  obtain ⟨_, _, g, ca, rfl, a3, _⟩ := h.dat b l v hb
  rw [← ownB_slice.1 hk]; exact a3
theorem CchB.ltH (h : CchB K i w cb mb c hv tier s D) (h0 : 0 < c.h.length) : ∀ k, ownB hv k → k < w.heap.size := fun k hk => by
  obtain ⟨A, n, cp, rfl, h8, _⟩ := h.hin
  obtain ⟨g, o, rfl, hg, _⟩ := h8.at_ 0 h0
  rw [← ownB_slice.1 hk]; exact hg
theorem CchB.in_ (h : CchB K i w cb mb c hv tier s D) {b : Int} {p : Blk} (hb : D b = some p) : b ∈ K.sp.all s := (h.keys b).1 (by rw [hb]; rfl)
theorem CchB.out_ (h : CchB K i w cb mb c hv tier s D) {b : Int} (hb : D b = none) : b ∉ K.sp.all s := fun e => by
  have := (h.keys b).2 e
  rw [hb] at this
  cases this
def UseP (K : OKind) (i : K.ι) (cb mb : Nat) (c : CfgA) (hv : Value) (tier : Nat) (s : K.σ) (D : Int → Option Blk) (b : Int) (l : List Int) (w : World) (e : Ending) (w' : World) : Prop :=
  ∃ v, e = .returned (.tuple #[v, .bool true]) ∧ Row 5 w' v (bytes l) ∧ (∀ k, ownB v k → w.heap.size ≤ k) ∧ CchB K i w' cb mb c hv tier (K.sp.use s b) D ∧ Only (K.F i) w w'
set_option maxHeartbeats 4000000
set_option maxRecDepth 100000
theorem cch_use_no {b : Int} (h : CchB K i w cb mb c hv tier s D) (hb : D b = none) :
    Calls Tryz.prog 91 #[.pointer (some ⟨cb, 0, none⟩), .int .i64 b] w fun e w' => e = .returned (.tuple #[.slice none 0 0, .bool false]) ∧ Only Non w w' := by
  have HH := cch_has b h
  rw [decide_eq_false (h.out_ hb)] at HH
  have HH := Lib.hid HH
  clear h hb
  go_enter Tryz.func91, Tryz.ntmps91
  go_wp2_with (go_at_call 28; refine HH.out.mono ?_; rintro e w1 ⟨rfl, h1⟩)
  go_ret2
  exact ⟨rfl, h1⟩
theorem cch_use_in {b : Int} {l : List Int} {dv : Value} (h : CchB K i w cb mb c hv tier s D) (hb : D b = some (l, dv)) (hage : K.sp.age s < maxAge) :
    Calls Tryz.prog 91 #[.pointer (some ⟨cb, 0, none⟩), .int .i64 b] w (UseP K i cb mb c hv tier s D b l w) := by
  have hmem := h.in_ hb
  have HH := cch_has b h
  rw [decide_eq_true hmem] at HH
  have HH := Lib.hid HH
  have hrg := (K.oc i).rng h.ord hmem
  have HI := Lib.hid (show I64 b from ⟨by omega, by omega⟩)
  have HU := Lib.hid fun w' (hC : CchB K i w' cb mb c hv tier s D) => (K.oc i).use hC.ord hmem hage
  have HL := Lib.hid ((K.oc i).useL h.ord hmem)
  have hm := (K.oc i).duse.m
  have he := (K.oc i).duse.e
  have H := Lib.hid h
  have HV := Lib.hid (show vOf D b = some dv by unfold vOf; rw [hb]; rfl)
  have HD := Lib.hid hb
  have HR := Lib.hid h.right
  clear h hb hmem hrg hage
  go_enter Tryz.func91, Tryz.ntmps91
  go_upto_region 3 with (go_at_call 28; refine HH.out.mono ?_; rintro e W1 ⟨rfl, ho1⟩)
  have H1 := Lib.hid (H.out.keep ho1)
  have HO1 := Lib.hid ho1
  have x1 : W1.cell? ⟨cb, 18, none⟩ = some (.iface K.t (K.x i)) := H1.out.box.cellAt (cch_o _ _ _ _ _ _)
  clear ho1
  go_upto_region 4 with (refine (HU.out W1 H1.out).mono ?_; rintro e W2 ⟨rfl, hr2, ho2⟩)
  have H2 := Lib.hid (H1.out.turn hr2 ho2 HL.out)
  have HO2 := Lib.hid ho2
  clear x1 hr2 ho2 hm he
  have x2 : W2.cell? ⟨cb, 19, none⟩ = some (.map (some mb)) := H2.out.box.cellAt (cch_m _ _ _ _ _ _)
  have hlk := run_look_i (P := Tryz.prog) H2.out.map lawB Tryz.underlying3 (z := .slice none 0 0) (by kernel_rfl) HI.out
  rw [HV.out, Option.getD_some] at hlk
  have hby := (H2.out.dat b l dv HD.out).byt
  have HBY := Lib.hid hby
  clear hby
  go_wp2_with (go_at_call 108; refine (clone_any _ l W2 HBY.out).mono ?_; rintro e W3 ⟨v, rfl, hrow, ho3, hnew⟩)
  go_ret2
  have hs1 := HO1.out.size
  have hs2 := HO2.out.size
  exact ⟨v, rfl, hrow, fun k hk => by have := hnew k hk; omega, H2.out.keep ho3, ((HO1.out.mono fun _ hk => hk.elim).trans HO2.out).transN ho3⟩
end
theorem cfg_one (c : CfgA) (A : Option Addr) (n m : Nat) : (cfgCells c (.slice A n m)).all (·.oneCell') = true := by simp [cfgCells, Value.oneCell']
def lc : CfgA := ⟨fun i => [1, 1, 4, 1, 2, 0, 1, 1, 1, 1, 1, 1, 1, 1, 0, 1].getD i 0, []⟩
theorem lc_ok : CfgP lc where
  p0 := by decide
  p1 := by decide
  p2 := by decide
  p3 := by decide
  p4 := by decide
  p5 := by decide
  pp := by decide
  pl := by decide
  pc := by decide
  p12 := by decide
  p13 := by decide
  p14 := by decide
  p15 := by decide
  ph := .inr rfl
  hs := ⟨fun i hi => absurd hi (Nat.not_lt_zero _), fun i j _ hj => absurd hj (Nat.not_lt_zero _), by decide⟩
theorem lc_made (k : Nat) (hk : k < 3) : (lruK 1).Made lc (k + 1) := by
  rcases (show k = 0 ∨ k = 1 ∨ k = 2 by omega) with rfl | rfl | rfl
  · exact lru_made (c := lc) (k := 0) lc_ok (by decide) (by decide) (by decide)
  · exact lru_made (c := lc) (k := 1) lc_ok (by decide) (by decide) (by decide)
  · exact lru_made (c := lc) (k := 2) lc_ok (by decide) (by decide) (by decide)
def zCfg : Array Value := #[.int .i64 0, .int .i64 0, .int .i64 0, .int .i64 0, .int .i64 0, .int .i64 0, .int .i64 0, .int .i64 0, .int .i64 0, .int .i64 0, .int .i64 0, .int .i64 0, .int .i64 0, .int .i64 0, .int .i64 0, .int .i64 0, .slice none 0 0]
theorem one_byt {w : World} {g : Nat} {x : Int} (h : Box w g 5 #[.int .u8 x]) : Byt w (.slice (some ⟨g, 0, none⟩) 1 1) [x] := ⟨_, 1, rfl, Nat.le_refl _, by simp, fun j u hj => ⟨g, 0, rfl, by
  rw [Nat.zero_add]
  exact h.cellAt (by simpa using hj)⟩⟩
section
set_option maxHeartbeats 4000000
set_option maxRecDepth 100000
theorem least_any (w : World) : Calls Tryz.prog 80 #[] w fun e w' => e = .returned (.agg (cfgCells lc (.slice none 0 0))) ∧ Only Non w w' := by
  have HB := Lib.hid (Box.fresh w 25 #[.int .i64 0, .int .i64 0, .int .i64 0, .int .i64 0, .int .i64 0, .int .i64 0, .int .i64 0, .int .i64 0, .int .i64 0, .int .i64 0, .int .i64 0, .int .i64 0, .int .i64 0, .int .i64 0, .int .i64 0, .int .i64 0, .slice none 0 0])
  have HO := Lib.hid (show Only Non w (w.alloc (.cells #[.int .i64 0, .int .i64 0, .int .i64 0, .int .i64 0, .int .i64 0, .int .i64 0, .int .i64 0, .int .i64 0, .int .i64 0, .int .i64 0, .int .i64 0, .int .i64 0, .int .i64 0, .int .i64 0, .int .i64 0, .int .i64 0, .slice none 0 0] 25)) from (Only.refl Non w).alloc _)
  go_enter Tryz.func80, Tryz.ntmps80
  go_upto_region 1 with fail
  generalize w.alloc (.cells #[.int .i64 0, .int .i64 0, .int .i64 0, .int .i64 0, .int .i64 0, .int .i64 0, .int .i64 0, .int .i64 0, .int .i64 0, .int .i64 0, .int .i64 0, .int .i64 0, .int .i64 0, .int .i64 0, .int .i64 0, .int .i64 0, .slice none 0 0] 25) = W at *
  go_wp2_with (refine wpList_store_row rfl 25 _ _ rfl w.heap.size (cfgCells lc (.slice none 0 0)) rfl rfl 25 _ HB.out (by kernel_rfl) rfl (cfg_one lc none 0 0) ?_)
  (try simp only [Exit.inBlock, Exit.then])
  refine bodyPost_ret (results_cell_row rfl _ _ w.heap.size _ (cfgCells lc (.slice none 0 0)) (0, 0) _ rfl (HB.out.setRow' _) Tryz.underlying25 rfl (by kernel_rfl)) rfl ?_
  exact ⟨rfl, HO.out.setRow' (.inr (Nat.le_refl _)) _⟩
theorem sameFrame_any (x y : Int) {va vb : Value} {la lb : List Int} (w : World) (ha : Byt w va la) (hb : Byt w vb lb) :
    Calls Tryz.prog 82 #[.agg #[.int .i64 x, va], .agg #[.int .i64 y, vb]] w fun e w' => e = .returned (.bool (decide (x = y) && decide (la = lb))) ∧ Only Non w w' := by
  obtain ⟨A, ca, rfl, _⟩ := id ha
  obtain ⟨B, cb, rfl, _⟩ := id hb
  have HO := Lib.hid (((Only.refl Non w).alloc (.cells #[.int .i64 x, .slice A la.length ca] 38)).alloc (.cells #[.int .i64 y, .slice B lb.length cb] 38))
  have hb1 := (Box.fresh w 38 #[.int .i64 x, .slice A la.length ca]).alloc (.cells #[.int .i64 y, .slice B lb.length cb] 38)
  have hb2 := Box.fresh (w.alloc (.cells #[.int .i64 x, .slice A la.length ca] 38)) 38 #[.int .i64 y, .slice B lb.length cb]
  rw [World.size_alloc] at hb2
  have HB1 := Lib.hid hb1
  have HB2 := Lib.hid hb2
  have HA := Lib.hid ha
  have HBB := Lib.hid hb
  clear hb1 hb2 ha hb
  go_enter Tryz.func82, Tryz.ntmps82
  go_upto_region 1 with fail
  have HA1 := Lib.hid (HA.out.only HO.out fun _ _ => id)
  have HB3 := Lib.hid (HBB.out.only HO.out fun _ _ => id)
  change Code.wp _ _ _ _ ((w.alloc (.cells #[.int .i64 x, .slice A la.length ca] 38)).alloc (.cells #[.int .i64 y, .slice B lb.length cb] 38))
  generalize (w.alloc (.cells #[.int .i64 x, .slice A la.length ca] 38)).alloc (.cells #[.int .i64 y, .slice B lb.length cb] 38) = W1 at *
  have k0 : W1.cell? ⟨w.heap.size, 0, none⟩ = some (.int .i64 x) := HB1.out.cellAt rfl
  have k1 : W1.cell? ⟨w.heap.size, 1, none⟩ = some (.slice A la.length ca) := HB1.out.cellAt rfl
  have k2 : W1.cell? ⟨w.heap.size + 1, 0, none⟩ = some (.int .i64 y) := HB2.out.cellAt rfl
  have k3 : W1.cell? ⟨w.heap.size + 1, 1, none⟩ = some (.slice B lb.length cb) := HB2.out.cellAt rfl
  by_cases hxy : x = y
  · have HS := Lib.hid (same_any _ _ la lb W1 HA1.out HB3.out)
    have HXY := Lib.hid hxy
    have hxb : (x == y) = true := by simpa using hxy
    clear hxy
    go_wp2_with (go_at_call 58; refine HS.out.mono ?_; rintro e W2 ⟨rfl, m, rfl⟩)
    go_ret
    exact ⟨by rw [decide_eq_true HXY.out, Bool.true_and]; rfl, HO.out.drewN m⟩
  · have HXY := Lib.hid hxy
    have hxb : (x == y) = false := by simpa using hxy
    clear hxy
    go_wp2_with fail
    go_ret
    exact ⟨by rw [decide_eq_false HXY.out, Bool.false_and]; rfl, HO.out⟩
end
section
set_option maxHeartbeats 4000000
set_option maxRecDepth 100000
theorem wk_made : (lruK 1).Made lc 1 := lru_made (c := lc) (k := 0) lc_ok (by decide) (by decide) (by decide)
theorem wk_put {i : (lruK 1).ι} {W : World} {cb mb : Nat} {hv : Value} {s : List Int} {D : Int → Option Blk} (h : CchB (lruK 1) i W cb mb lc hv 1 s D) (b x : Int) (h0 : 0 ≤ b) (h1 : b < 4) :
    Calls Tryz.prog 81 #[.pointer (some ⟨cb, 0, none⟩), .agg #[.int .i64 b, .slice (some ⟨W.heap.size, 0, none⟩) 1 1], .int .i64 0] (W.alloc (.cells #[.int .u8 x] 5)) (PutPost (lruK 1) i cb mb lc hv 1 s D b [x] (W.alloc (.cells #[.int .u8 x] 5))) := by
  refine cch_put (h.keep ((Only.refl Non W).alloc _)) (one_byt (Box.fresh W 5 #[.int .u8 x])) (fun k hk => ?_) h0 h1 rfl 0 (fun w' hc => ?_) trivial (show 0 < maxAge by decide)
  · have := ownB_slice.1 hk
    have h2 := ((lruK 1).oc i).lt h.ord
    have h3 := h.map.lt
    exact ⟨fun e => by have := h2 k e; omega, by omega⟩
  · refine (cch_takes b 0 hc (by decide)).mono fun e w'' ⟨h2, h3⟩ => ⟨?_, h3 ▸ Only.refl _ _⟩
    rw [h2]
    have : takesP lc 1 b 0 = true := by
      unfold takesP
      rw [decide_eq_true h0, decide_eq_true (show b < lc.f 2 from h1)]
      rfl
    rw [this]
theorem wakes_any (w : World) : Calls Tryz.prog 17 #[] w fun e w' => e = .returned (.bool true) ∧ Only Non w w' := by
  go_enter Tryz.func17, Tryz.ntmps17
  go_wp2_with fail
  refine (least_any w).mono ?_
  rintro e W1 ⟨rfl, ho1⟩
  have HO1 := Lib.hid ho1
  clear ho1
  have HN := Lib.hid (show Calls Tryz.prog 19 #[.agg (cfgCells lc (.slice none 0 0)), .int .i64 1] W1 (NPost (lruK 1) lc 1 W1) from
    cch_new wk_made lc_ok (by decide) (by decide) W1 (A := none) (n := 0) (cp := 0) ⟨rfl, Nat.le_refl _, Nat.zero_le _, fun i hi => absurd hi (Nat.not_lt_zero _)⟩)
  go_wp2_with fail
  refine HN.out.mono ?_
  rintro e W2 ⟨i, cb, mb, hv, rfl, hc2, hF2, hcb2, hmb2, _, ho2⟩
  have HC2 := Lib.hid hc2
  have HF2 := Lib.hid hF2
  have HL2 := Lib.hid (show W1.heap.size ≤ cb ∧ W1.heap.size ≤ mb from ⟨hcb2, hmb2⟩)
  have HO2 := Lib.hid (HO1.out.trans ho2)
  have HS1 := Lib.hid HO1.out.size
  clear hc2 hF2 hcb2 hmb2 ho2 HN
  have HP := Lib.hid (wk_put HC2.out 0 7 (by decide) (by decide))
  go_wp2_with fail
  refine HP.out.mono ?_
  rintro e W3 ⟨vv, he, hc3, hn3, ho3⟩
  have hadd : (lruK 1).sp.add ([] : List Int) 0 = (([0] : List Int), 0, false) := show lruAdd 1 [] 0 = ([0], 0, false) by decide
  have he' : e = .returned (.tuple #[.agg #[.int .i64 0, .slice none 0 0], .bool false, .int .i64 0]) := by
    rw [he]
    show Ending.returned (.tuple #[.agg #[.int .i64 ((lruK 1).sp.add ([] : List Int) 0).2.1, victD _ ((lruK 1).sp.add ([] : List Int) 0).2.2 _], .bool ((lruK 1).sp.add ([] : List Int) 0).2.2, .int .i64 0]) = _
    rw [hadd]
    rfl
  subst he'
  have hc3' : CchB (lruK 1) i W3 cb mb lc hv 1 ([0] : List Int) (putD (fun _ => none) false 0 0 ([7], vv)) := by
    have := hc3
    rw [show (lruK 1).sp.add (lruK 1).s0 0 = ([0], 0, false) from hadd] at this
    exact this
  have hd3 : DatB W3 cb mb ((lruK 1).F i) 1 [7] vv := hc3'.dat 0 [7] vv rfl
  have ho3w : Only Non w W3 := (HO2.out.alloc (.cells #[.int .u8 7] 5)).trans' ho3 fun k hk => .inr (by
    have h1 := HS1.out
    have h2 := HL2.out.2
    rcases hk with hk | hk
    · have := HF2.out k hk; omega
    · omega)
  obtain ⟨g0, ca0, hvv, _⟩ := hd3.at_
  have HD3 := Lib.hid hd3
  have HC3 := Lib.hid hc3'
  have HO3 := Lib.hid ho3w
  clear he hc3 hc3' hn3 ho3 hd3 ho3w hadd HP HC2 HO2
  have HP2 := Lib.hid (wk_put HC3.out 1 8 (by decide) (by decide))
  go_wp2_with fail
  refine HP2.out.mono ?_
  rintro e W5 ⟨vv2, he, hc5, hn5, ho5⟩
  have hadd : (lruK 1).sp.add ([0] : List Int) 1 = (([1] : List Int), 0, true) := show lruAdd 1 [0] 1 = ([1], 0, true) by decide
  have he' : e = .returned (.tuple #[.agg #[.int .i64 0, .slice (some ⟨g0, 0, none⟩) 1 ca0], .bool true, .int .i64 0]) := by
    rw [he]
    show Ending.returned (.tuple #[.agg #[.int .i64 ((lruK 1).sp.add ([0] : List Int) 1).2.1, victD _ ((lruK 1).sp.add ([0] : List Int) 1).2.2 ((lruK 1).sp.add ([0] : List Int) 1).2.1], .bool ((lruK 1).sp.add ([0] : List Int) 1).2.2, .int .i64 0]) = _
    rw [hadd]
    show Ending.returned (.tuple #[.agg #[.int .i64 0, vv], .bool true, .int .i64 0]) = _
    rw [hvv]
    rfl
  subst he'
  have hd5 : Byt W5 (.slice (some ⟨g0, 0, none⟩) 1 ca0) [7] := by
    have h1 := (HD3.out.far (w' := W3.alloc (.cells #[.int .u8 8] 5)) ((Only.refl _ W3).alloc _)).far ho5
    have h2 := h1.byt
    rw [hvv] at h2
    exact h2
  have ho5w : Only Non w W5 := (HO3.out.alloc (.cells #[.int .u8 8] 5)).trans' ho5 fun k hk => .inr (by
    have h1 := HS1.out
    have h2 := HL2.out.2
    rcases hk with hk | hk
    · have := HF2.out k hk; omega
    · omega)
  have HD5 := Lib.hid hd5
  have HO5 := Lib.hid ho5w
  clear he hc5 hn5 ho5 hd5 ho5w hadd HP2 HC3 HO3 HD3 hvv
  go_upto_region 6 with (refine wpList_store_row rfl 38 _ _ rfl W5.heap.size #[.int .i64 0, .slice (some ⟨g0, 0, none⟩) 1 ca0] rfl rfl 38 _ (Box.fresh W5 38 #[.int .i64 0, .slice none 0 0]) (by kernel_rfl) rfl (by simp [Value.oneCell']) ?_)
  have ho6 : Only Non W5 ((W5.alloc (.cells #[.int .i64 0, .slice none 0 0] 38)).setRow W5.heap.size #[.int .i64 0, .slice (some ⟨g0, 0, none⟩) 1 ca0]) := ((Only.refl Non W5).alloc _).setRow' (.inr (Nat.le_refl _)) _
  have hb6 := (Box.fresh W5 38 #[.int .i64 0, .slice none 0 0]).setRow' #[.int .i64 0, .slice (some ⟨g0, 0, none⟩) 1 ca0]
  have HO6 := Lib.hid (HO5.out.trans ho6)
  have HB6 := Lib.hid hb6
  have HD6 := Lib.hid (HD5.out.only ho6 fun _ _ => id)
  change Code.wp _ _ _ _ ((W5.alloc (.cells #[.int .i64 0, .slice none 0 0] 38)).setRow W5.heap.size #[.int .i64 0, .slice (some ⟨g0, 0, none⟩) 1 ca0])
  clear ho6 hb6 HO5 HD5
  generalize (W5.alloc (.cells #[.int .i64 0, .slice none 0 0] 38)).setRow W5.heap.size #[.int .i64 0, .slice (some ⟨g0, 0, none⟩) 1 ca0] = W6 at *
  generalize W5.heap.size = fb at *
  have k0 : W6.cell? ⟨fb, 0, none⟩ = some (.int .i64 0) := HB6.out.cellAt rfl
  have k1 : W6.cell? ⟨fb, 1, none⟩ = some (.slice (some ⟨g0, 0, none⟩) 1 ca0) := HB6.out.cellAt rfl
  have HSF := Lib.hid (sameFrame_any 0 0 (W6.alloc (.cells #[.int .u8 7] 5)) (HD6.out.only ((Only.refl Non W6).alloc _) fun _ _ => id) (one_byt (Box.fresh W6 5 #[.int .u8 7])))
  go_wp2_with (go_at_call 82; refine HSF.out.mono ?_; rintro e W8 ⟨rfl, ho8⟩)
  go_ret
  exact ⟨rfl, (HO6.out.alloc _).trans ho8⟩
end
theorem results_ct {P : Program} {fn : Func} {p u : Tmp} {ty : TypeId} (h : fn.results = #[.cell p ty, .tmp u]) (tmps : Array Value) (w : World) (g : Nat) (t : TypeId) (cs : Array Value) (fr : Nat × Nat) (d : TypeDesc)
    (hp : tmps.getD p undef = .pointer (some ⟨g, 0, none⟩)) (hg : w.heap[g]? = some (.cells cs t fr))
    (hu : P.underlying ty = some d) (hd : (match d with | .struct _ | .array _ _ => true | _ => false) = true) (hi : (P.info? ty).map (·.size) = some cs.size) :
    (results fn tmps).run P w = .ok (.tuple #[.agg cs, tmps.getD u undef]) w := by
  have hp' : tmps[p]?.getD undef = .pointer (some ⟨g, 0, none⟩) := by simpa using hp
  simp [results, h, hp', asAddr, run_loadVar_row w g t ty cs fr d hg hu hd hi]
def zF : Array Value := #[.int .i64 0, .slice none 0 0]
section
set_option maxHeartbeats 4000000
set_option maxRecDepth 100000
theorem nil_has (b : Int) (w : World) : Calls Tryz.prog 28 #[.pointer none, .int .i64 b] w fun e w' => e = .returned (.bool false) ∧ w = w' := by
  go_enter Tryz.func28, Tryz.ntmps28
  go_wp2_with fail
  go_ret
  exact ⟨rfl, rfl⟩
theorem nil_there (b : Int) (w : World) : Calls Tryz.prog 100 #[.pointer none, .int .i64 b] w fun e w' => e = .returned (.bool false) ∧ w = w' := by
  go_enter Tryz.func100, Tryz.ntmps100
  go_wp2_with fail
  go_ret
  exact ⟨rfl, rfl⟩
theorem nil_takes (b l : Int) (w : World) : Calls Tryz.prog 30 #[.pointer none, .int .i64 b, .int .i64 l] w fun e w' => e = .returned (.bool false) ∧ w = w' := by
  go_enter Tryz.func30, Tryz.ntmps30
  go_wp2_with (go_at_call 100; refine (nil_there b _).mono ?_; rintro e W1 ⟨rfl, rfl⟩)
  go_ret
  exact ⟨rfl, rfl⟩
theorem nil_len (w : World) : Calls Tryz.prog 27 #[.pointer none] w fun e w' => e = .returned (.int .i64 0) ∧ w = w' := by
  go_enter Tryz.func27, Tryz.ntmps27
  go_wp2_with fail
  go_ret
  exact ⟨rfl, rfl⟩
theorem nil_all (w : World) : Calls Tryz.prog 25 #[.pointer none] w fun e w' => e = .returned (.slice none 0 0) ∧ w = w' := by
  go_enter Tryz.func25, Tryz.ntmps25
  go_wp2_with fail
  go_ret
  exact ⟨rfl, rfl⟩
theorem nil_clear (w : World) : Calls Tryz.prog 22 #[.pointer none] w fun e w' => e = .returned (.tuple #[]) ∧ w = w' := by
  go_enter Tryz.func22, Tryz.ntmps22
  go_wp2_with fail
  (try simp only [Exit.inBlock, Exit.then])
  refine bodyPost_ret (results_none rfl _ _ _) rfl ?_
  exact ⟨rfl, rfl⟩
theorem nil_use (b : Int) (w : World) : Calls Tryz.prog 91 #[.pointer none, .int .i64 b] w fun e w' => e = .returned (.tuple #[.slice none 0 0, .bool false]) ∧ w = w' := by
  go_enter Tryz.func91, Tryz.ntmps91
  go_wp2_with (go_at_call 28; refine (nil_has b _).mono ?_; rintro e W1 ⟨rfl, rfl⟩)
  go_ret2
  exact ⟨rfl, rfl⟩
theorem nil_drop (b : Int) (w : World) : Calls Tryz.prog 96 #[.pointer none, .int .i64 b] w fun e w' => e = .returned (.tuple #[.agg zF, .bool false]) ∧ Only Non w w' := by
  have HB := Lib.hid (Box.fresh w 38 zF)
  have HO := Lib.hid ((Only.refl Non w).alloc (.cells zF 38))
  go_enter Tryz.func96, Tryz.ntmps96
  go_upto_region 1 with fail
  change Code.wp _ _ _ _ (w.alloc (.cells zF 38))
  generalize w.alloc (.cells zF 38) = W1 at *
  go_wp2_with (first | (go_at_call 28; refine (nil_has b _).mono ?_; rintro e W2 ⟨rfl, rfl⟩) | (refine wpList_store_row rfl 38 _ _ rfl w.heap.size zF rfl rfl 38 _ HB.out (by kernel_rfl) rfl (by simp [zF, Value.oneCell']) ?_))
  (try simp only [Exit.inBlock, Exit.then])
  refine bodyPost_ret (results_ct rfl _ _ w.heap.size _ zF (0, 0) _ rfl (HB.out.setRow' _) Tryz.underlying38 rfl (by kernel_rfl)) rfl ?_
  exact ⟨rfl, HO.out.setRow' (.inr (Nat.le_refl _)) _⟩
theorem nil_put (b l : Int) (A : Option Addr) (n c : Nat) (w : World) : Calls Tryz.prog 81 #[.pointer none, .agg #[.int .i64 b, .slice A n c], .int .i64 l] w fun e w' => e = .returned (.tuple #[.agg zF, .bool false, .int .i64 7]) ∧ Only Non w w' := by
  have hb := Box.fresh (w.alloc (.cells #[.int .i64 b, .slice A n c] 38)) 38 zF
  rw [World.size_alloc] at hb
  have HB := Lib.hid hb
  have HO := Lib.hid (((Only.refl Non w).alloc (.cells #[.int .i64 b, .slice A n c] 38)).alloc (.cells zF 38))
  clear hb
  go_enter Tryz.func81, Tryz.ntmps81
  go_upto_region 1 with fail
  change Code.wp _ _ _ _ ((w.alloc (.cells #[.int .i64 b, .slice A n c] 38)).alloc (.cells zF 38))
  generalize (w.alloc (.cells #[.int .i64 b, .slice A n c] 38)).alloc (.cells zF 38) = W1 at *
  go_wp2_with (refine wpList_store_row rfl 38 _ _ rfl (w.heap.size + 1) zF rfl rfl 38 _ HB.out (by kernel_rfl) rfl (by simp [zF, Value.oneCell']) ?_)
  (try simp only [Exit.inBlock, Exit.then])
  refine bodyPost_ret (results_ctt rfl _ _ (w.heap.size + 1) _ zF (0, 0) _ rfl (HB.out.setRow' _) Tryz.underlying38 rfl (by kernel_rfl)) rfl ?_
  exact ⟨rfl, HO.out.setRow' (.inr (Nat.le_succ _)) _⟩
theorem nil_set (b : Int) (A : Option Addr) (n c : Nat) (w : World) : Calls Tryz.prog 94 #[.pointer none, .agg #[.int .i64 b, .slice A n c]] w fun e w' => e = .returned (.bool false) ∧ Only Non w w' := by
  have HB := Lib.hid (Box.fresh w 38 #[.int .i64 b, .slice A n c])
  have HO := Lib.hid ((Only.refl Non w).alloc (.cells #[.int .i64 b, .slice A n c] 38))
  go_enter Tryz.func94, Tryz.ntmps94
  go_upto_region 1 with fail
  change Code.wp _ _ _ _ (w.alloc (.cells #[.int .i64 b, .slice A n c] 38))
  generalize w.alloc (.cells #[.int .i64 b, .slice A n c] 38) = W1 at *
  have k0 : W1.drew.cell? ⟨w.heap.size, 0, none⟩ = some (.int .i64 b) := HB.out.cellAt rfl
  refine wp_region_tail (S := (fun w' : World => w'.cell? ⟨w.heap.size, 0, none⟩ = some (.int .i64 b))) 15 (by kernel_rfl) (by kernel_rfl) ?_ ?_
  · assumption
  intro hSS
  refine wpHd_take (i := 0) (v := ?_) (by kernel_rfl) rfl (by kernel_rfl) (fun _ _ _ h => h) (.inl ⟨by rfl, ?_⟩) hSS ?_
  rotate_left
  · intro w hSw; (try dsimp only at hSw); go_simp; (try with_reducible rfl)
  refine wpHd_take (i := 1) (v := ?_) (by kernel_rfl) rfl (by kernel_rfl) (fun _ _ _ h => h) (.inl ⟨by rfl, ?_⟩) hSS ?_
  rotate_left
  · intro w hSw; (try dsimp only at hSw); go_simp; (try with_reducible rfl)
  refine wpHd_take (i := 2) (v := ?_) (by kernel_rfl) rfl (by kernel_rfl) (fun _ _ _ h => h) (.inl ⟨by rfl, ?_⟩) hSS ?_
  rotate_left
  · intro w hSw; (try dsimp only at hSw); go_simp; (try with_reducible rfl)
  try simp only [Act.put, List.getElem_toArray, List.getElem_cons_succ, List.getElem_cons_zero, List.setIfInBounds_toArray, List.set_cons_zero, List.set_cons_succ]
  refine wpHd_one (i := 3) rfl (by kernel_rfl) (fun K hK => ?_)
  go_simp
  refine (nil_has b _).mono ?_
  rintro e W9 ⟨rfl, rfl⟩
  refine hK.out _ _ ?_ (fun hSS => ?_)
  · assumption
  clear hK
  refine wpHd_take (i := 4) (v := ?_) (by kernel_rfl) rfl (by kernel_rfl) (fun _ _ _ h => h) (.inl ⟨by rfl, ?_⟩) hSS ?_
  rotate_left
  · intro w hSw; (try dsimp only at hSw); go_simp; (try with_reducible rfl)
  refine wpHd_take (i := 5) (v := ?_) (by kernel_rfl) rfl (by kernel_rfl) (fun _ _ _ h => h) (.inl ⟨by rfl, ?_⟩) hSS ?_
  rotate_left
  · intro w hSw; (try dsimp only at hSw); go_simp; (try with_reducible rfl)
  refine wpHd_take (i := 6) (v := undef) (by kernel_rfl) rfl (by kernel_rfl) (fun _ _ _ h => h) (Or.inr ⟨by rfl, rfl⟩) (by assumption) ?_
  refine wpHd_take (i := 7) (v := undef) (by kernel_rfl) rfl (by kernel_rfl) (fun _ _ _ h => h) (Or.inr ⟨by rfl, rfl⟩) (by assumption) ?_
  refine wpHd_take (i := 8) (v := undef) (by kernel_rfl) rfl (by kernel_rfl) (fun _ _ _ h => h) (Or.inr ⟨by rfl, rfl⟩) (by assumption) ?_
  try simp only [Act.put, List.getElem_toArray, List.getElem_cons_succ, List.getElem_cons_zero, List.setIfInBounds_toArray, List.set_cons_zero, List.set_cons_succ]
  refine wpHd_take (i := 9) (v := undef) (by kernel_rfl) rfl (by kernel_rfl) (fun _ _ _ h => h) (Or.inr ⟨by rfl, rfl⟩) (by assumption) ?_
  refine wpHd_take (i := 10) (v := undef) (by kernel_rfl) rfl (by kernel_rfl) (fun _ _ _ h => h) (Or.inr ⟨by rfl, rfl⟩) (by assumption) ?_
  refine wpHd_take (i := 11) (v := undef) (by kernel_rfl) rfl (by kernel_rfl) (fun _ _ _ h => h) (Or.inr ⟨by rfl, rfl⟩) (by assumption) ?_
  refine wpHd_take (i := 12) (v := undef) (by kernel_rfl) rfl (by kernel_rfl) (fun _ _ _ h => h) (Or.inr ⟨by rfl, rfl⟩) (by assumption) ?_
  refine wpHd_take (i := 13) (v := undef) (by kernel_rfl) rfl (by kernel_rfl) (fun _ _ _ h => h) (Or.inr ⟨by rfl, rfl⟩) (by assumption) ?_
  try simp only [Act.put, List.getElem_toArray, List.getElem_cons_succ, List.getElem_cons_zero, List.setIfInBounds_toArray, List.set_cons_zero, List.set_cons_succ]
  refine wpHd_take (i := 14) (v := undef) (by kernel_rfl) rfl (by kernel_rfl) (fun _ _ _ h => h) (Or.inr ⟨by rfl, rfl⟩) (by assumption) ?_
  try simp only [Act.put, List.getElem_toArray, List.getElem_cons_succ, List.getElem_cons_zero, List.setIfInBounds_toArray, List.set_cons_zero, List.set_cons_succ]
  refine wpHd_end (by kernel_rfl) ?_
  clear hSS
  go_wp2
  go_ret
  exact ⟨rfl, HO.out.drew⟩
end
section
variable {K : OKind} {i : K.ι} {w w' : World} {cb mb : Nat} {c : CfgA} {hv : Value} {tier : Nat} {s s' : K.σ} {D : Int → Option Blk}
theorem CchB.less (h : CchB K i w cb mb c hv tier s D) {b : Int} (hb : b ∈ K.sp.all s) {w1 : World} (hR : K.R i (K.sp.rem s b) w1) (ho1 : Only (K.F i) w w1) (hm : MapI w' mb (vOf (updI D b none))) (ho2 : Only (Just mb) w1 w') :
    CchB K i w' cb mb c hv tier (K.sp.rem s b) (updI D b none) := by
  have ho : Only (CF2 (K.F i) mb) w w' := (ho1.mono fun k hk => .inl (.inl hk)).trans' ho2 fun k hk => .inl (.inr hk)
  exact {
    box := ho.box h.box fun e => e.elim h.ncb h.cm
    ord := (K.oc i).only hR ho2 fun k hk e => h.nmb (by rw [← show k = mb from e]; exact hk)
    map := hm
    keys := fun y => by
      unfold updI
      rw [(K.oc i).remL h.ord hb y]
      by_cases e : y = b
      · rw [if_pos e]; simp [e]
      · rw [if_neg e, h.keys y]; simp [e]
    dat := fun y l v hy => by
      unfold updI at hy
      split at hy
      · cases hy
      · exact (h.dat y l v hy).far ho
    ncb := h.ncb
    nmb := h.nmb
    right := h.right
    t1 := h.t1
    t3 := h.t3
    hin := by
      obtain ⟨A, n, cp, e, h8, h9⟩ := h.hin
      exact ⟨A, n, cp, e, h8.far ho fun h0 k hk e2 => by
        have := h9 h0 k (e ▸ hk)
        exact e2.elim this.1 this.2.2, h9⟩ }
def DropP (K : OKind) (i : K.ι) (cb mb : Nat) (c : CfgA) (hv : Value) (tier : Nat) (s : K.σ) (D : Int → Option Blk) (b : Int) (l : List Int) (dv : Value) (w : World) (e : Ending) (w' : World) : Prop :=
  e = .returned (.tuple #[.agg #[.int .i64 b, dv], .bool true]) ∧ CchB K i w' cb mb c hv tier (K.sp.rem s b) (updI D b none) ∧ DatB w' cb mb (K.F i) (c.f 3) l dv ∧ Only (CF2 (K.F i) mb) w w'
set_option maxHeartbeats 4000000
set_option maxRecDepth 100000
theorem cch_drop_no {b : Int} (h : CchB K i w cb mb c hv tier s D) (hb : D b = none) :
    Calls Tryz.prog 96 #[.pointer (some ⟨cb, 0, none⟩), .int .i64 b] w fun e w' => e = .returned (.tuple #[.agg zF, .bool false]) ∧ Only Non w w' := by
  have HB := Lib.hid (Box.fresh w 38 zF)
  have HO := Lib.hid ((Only.refl Non w).alloc (.cells zF 38))
  have HH := cch_has b (h.keep HO.out)
  rw [decide_eq_false (h.out_ hb)] at HH
  have HH := Lib.hid HH
  clear h hb
  go_enter Tryz.func96, Tryz.ntmps96
  go_upto_region 1 with fail
  change Code.wp _ _ _ _ (w.alloc (.cells zF 38))
  generalize w.alloc (.cells zF 38) = W at *
  obtain ⟨rb, hrb⟩ : ∃ rb, rb = w.heap.size := ⟨_, rfl⟩
  have HLB := Lib.hid (show w.heap.size ≤ rb from Nat.le_of_eq hrb.symm)
  rw [← hrb] at HB ⊢
  clear hrb
  go_upto_region 2 with (go_at_call 28; refine HH.out.mono ?_; rintro e W1 ⟨rfl, ho1⟩)
  have HB1 := Lib.hid (ho1.box HB.out id)
  have HO1 := Lib.hid (HO.out.trans ho1)
  clear ho1
  go_wp2_with (refine wpList_store_row rfl 38 _ _ rfl rb zF rfl rfl 38 _ HB1.out (by kernel_rfl) rfl (by simp [zF, Value.oneCell']) ?_)
  refine bodyPost_ret (results_ct rfl _ _ rb _ zF (0, 0) _ rfl (HB1.out.setRow' _) Tryz.underlying38 rfl (by kernel_rfl)) rfl ?_
  exact ⟨rfl, HO1.out.setRow' (.inr HLB.out) _⟩
theorem cch_drop_in {b : Int} {l : List Int} {dv : Value} (h : CchB K i w cb mb c hv tier s D) (hb : D b = some (l, dv)) :
    Calls Tryz.prog 96 #[.pointer (some ⟨cb, 0, none⟩), .int .i64 b] w (DropP K i cb mb c hv tier s D b l dv w) := by
  have hmem := h.in_ hb
  have HMEM := Lib.hid hmem
  have HB := Lib.hid (Box.fresh w 38 zF)
  have HO := Lib.hid ((Only.refl Non w).alloc (.cells zF 38))
  have H := Lib.hid (h.keep HO.out)
  have HH := cch_has b H.out
  rw [decide_eq_true hmem] at HH
  have HH := Lib.hid HH
  have hrg := (K.oc i).rng h.ord hmem
  have HI := Lib.hid (show I64 b from ⟨by omega, by omega⟩)
  have HU := Lib.hid fun w' (hC : CchB K i w' cb mb c hv tier s D) => (K.oc i).rem hC.ord hmem
  have hm := (K.oc i).drem.m
  have he := (K.oc i).drem.e
  have HV := Lib.hid (show vOf D b = some dv by unfold vOf; rw [hb]; rfl)
  have HD := Lib.hid hb
  have HLT := Lib.hid ((K.oc i).lt h.ord)
  have HCB := Lib.hid h.box.lt
  have HLD := Lib.hid fun y l' v' (hy : D y = some (l', v')) => h.ltD hy
  have HLH := Lib.hid h.ltH
  have HMB := Lib.hid h.map.lt
  obtain ⟨_, _, g0, ca0, e0, hg0, _⟩ := h.dat b l dv hb
  have HG0 := Lib.hid hg0
  have HE0 := Lib.hid e0
  clear h hb hmem hrg hg0
  go_enter Tryz.func96, Tryz.ntmps96
  go_upto_region 1 with fail
  change Code.wp _ _ _ _ (w.alloc (.cells zF 38))
  generalize w.alloc (.cells zF 38) = W at *
  obtain ⟨rb, hrb⟩ : ∃ rb, rb = w.heap.size := ⟨_, rfl⟩
  have HLB := Lib.hid (show w.heap.size ≤ rb from Nat.le_of_eq hrb.symm)
  rw [← hrb] at HB ⊢
  clear hrb
  subst e0
  go_upto_region 3 with (go_at_call 28; refine HH.out.mono ?_; rintro e W1 ⟨rfl, ho1⟩)
  have H1 := Lib.hid (H.out.keep ho1)
  have HB1 := Lib.hid (ho1.box HB.out id)
  have HO1 := Lib.hid (HO.out.trans ho1)
  clear ho1 HB HO H HH
  have x1 : W1.cell? ⟨cb, 19, none⟩ = some (.map (some mb)) := H1.out.box.cellAt (cch_m _ _ _ _ _ _)
  have hlk := run_look_i (P := Tryz.prog) H1.out.map lawB Tryz.underlying3 (z := .slice none 0 0) (by kernel_rfl) HI.out
  rw [HV.out, Option.getD_some] at hlk
  go_upto_region 4 with (refine wpList_store_row rfl 38 _ _ rfl W1.heap.size #[.int .i64 b, .slice (some ⟨g0, 0, none⟩) l.length ca0] rfl rfl 38 _ (Box.fresh W1 38 zF) (by kernel_rfl) rfl (by simp [Value.oneCell']) ?_)
  have ho2 : Only Non W1 ((W1.alloc (.cells zF 38)).setRow W1.heap.size #[.int .i64 b, .slice (some ⟨g0, 0, none⟩) l.length ca0]) := ((Only.refl Non W1).alloc _).setRow' (.inr (Nat.le_refl _)) _
  have hf2 := (Box.fresh W1 38 zF).setRow' #[.int .i64 b, .slice (some ⟨g0, 0, none⟩) l.length ca0]
  have HF2 := Lib.hid hf2
  have H2 := Lib.hid (H1.out.keep ho2)
  have HB2 := Lib.hid (ho2.box HB1.out id)
  have HO2 := Lib.hid (HO1.out.trans ho2)
  clear ho2 hf2 x1 hlk HB1
  change Code.wp _ _ _ _ ((W1.alloc (.cells zF 38)).setRow W1.heap.size #[.int .i64 b, .slice (some ⟨g0, 0, none⟩) l.length ca0])
  generalize (W1.alloc (.cells zF 38)).setRow W1.heap.size #[.int .i64 b, .slice (some ⟨g0, 0, none⟩) l.length ca0] = W2 at *
  obtain ⟨fb, hfb⟩ : ∃ fb, fb = W1.heap.size := ⟨_, rfl⟩
  have HLF := Lib.hid (show w.heap.size ≤ fb by rw [hfb]; exact HO1.out.size)
  rw [← hfb] at HF2 ⊢
  clear hfb
  have x2 : W2.cell? ⟨cb, 18, none⟩ = some (.iface K.t (K.x i)) := H2.out.box.cellAt (cch_o _ _ _ _ _ _)
  go_upto_region 5 with (refine (HU.out W2 H2.out).mono ?_; rintro e W3 ⟨rfl, hr3, ho3⟩)
  have HR3 := Lib.hid hr3
  have HO3 := Lib.hid ho3
  have hnrb : ¬ K.F i rb := fun e => by have := HLT.out _ e; have := HLB.out; omega
  have hnfb : ¬ K.F i fb := fun e => by have := HLT.out _ e; have := HLF.out; omega
  have HB3 := Lib.hid (ho3.box HB2.out hnrb)
  have HF3 := Lib.hid (ho3.box HF2.out hnfb)
  have HM3 := Lib.hid (H2.out.map.only ho3 H2.out.nmb)
  have x3 : W3.cell? ⟨cb, 19, none⟩ = some (.map (some mb)) := ho3.cell (H2.out.box.cellAt (cch_m _ _ _ _ _ _)) H2.out.ncb
  clear hr3 ho3 x2 hm he hnrb hnfb HB2 HF2
  obtain ⟨u5, W4, hrun, hm4, ho4⟩ := run_delete_i (P := Tryz.prog) HM3.out lawB Tryz.underlying3 HI.out 0
  rw [vOf_del] at hm4
  have HO4 := Lib.hid ho4
  have HC4 := Lib.hid (H2.out.less HMEM.out HR3.out HO3.out hm4 ho4)
  have HB4 := Lib.hid (ho4.box HB3.out fun e => by have h1 : rb = mb := e; have := HMB.out; have := HLB.out; omega)
  have HF4 := Lib.hid (ho4.box HF3.out fun e => by have h1 : fb = mb := e; have := HMB.out; have := HLF.out; omega)
  have HD4 := Lib.hid ((H2.out.dat b _ _ HD.out).far ((HO3.out.mono (S' := CF2 (K.F i) mb) fun k hk => .inl (.inl hk)).trans' ho4 fun k hk => .inl (.inr hk)))
  clear hm4 ho4 HM3 HB3 HF3
  go_upto_region 6 with fail
  clear hrun x3
  go_wp2_with (first | (refine wpList_load_row rfl 38 _ rfl fb rfl 38 #[.int .i64 b, .slice (some ⟨g0, 0, none⟩) l.length ca0] (0, 0) _ HF4.out Tryz.underlying38 rfl (by kernel_rfl) ?_) | (refine wpList_store_row rfl 38 _ _ rfl rb #[.int .i64 b, .slice (some ⟨g0, 0, none⟩) l.length ca0] rfl rfl 38 _ HB4.out (by kernel_rfl) rfl (by simp [Value.oneCell']) ?_))
  refine bodyPost_ret (results_ct rfl _ _ rb _ #[.int .i64 b, .slice (some ⟨g0, 0, none⟩) l.length ca0] (0, 0) _ rfl (HB4.out.setRow' _) Tryz.underlying38 rfl (by kernel_rfl)) rfl ?_
  have ho5 : Only (Just rb) W4 (W4.setRow rb #[.int .i64 b, .slice (some ⟨g0, 0, none⟩) l.length ca0]) := (Only.refl (Just rb) W4).setRow' (.inl (show Just rb rb from rfl)) _
  have how : Only (CF2 (K.F i) mb) w (W4.setRow rb #[.int .i64 b, .slice (some ⟨g0, 0, none⟩) l.length ca0]) :=
    (((HO2.out.mono (S' := CF2 (K.F i) mb) fun k hk => hk.elim).trans' HO3.out fun k hk => .inl (.inl hk)).trans' HO4.out fun k hk => .inl (.inr hk)).trans' ho5 fun k hk => .inr (by
      rw [show k = rb from hk]; exact HLB.out)
  have hn : ∀ k, k < w.heap.size → ¬ Just rb k := fun k hk e => by rw [show k = rb from e] at hk; have := HLB.out; omega
  refine ⟨rfl, HC4.out.off ho5 (fun k hk => hn k (HLT.out k hk)) (hn cb HCB.out) (hn mb HMB.out) (fun y l' v' hy k hk => hn k (HLD.out y l' v' (by unfold updI at hy; split at hy; cases hy; exact hy) k hk)) fun h0 k hk => hn k (HLH.out h0 k hk), ?_, how⟩
  obtain ⟨a1, a2, g, ca, e, a3, a4⟩ := HD4.out
  injection e with e; injection e with e; injection e with e
  subst e
  exact ⟨a1, a2.only ho5 fun k hk => hn k (by rw [← ownB_slice.1 hk]; exact HG0.out), g0, _, rfl, Nat.lt_of_lt_of_le a3 ho5.size, a4⟩
end
section
variable {K : OKind} {i : K.ι} {w w' : World} {cb mb : Nat} {c : CfgA} {hv : Value} {tier : Nat} {s s' : K.σ} {D : Int → Option Blk}
theorem CchB.other (h : CchB K i w cb mb c hv tier s D) {b : Int} {p q : Blk} (hb : D b = some p) (hm : MapI w' mb (vOf (updI D b (some q)))) (ho : Only (Just mb) w w') (hd : DatB w' cb mb (K.F i) (c.f 3) q.1 q.2) :
    CchB K i w' cb mb c hv tier s (updI D b (some q)) where
  box := ho.box h.box h.cm
  ord := (K.oc i).only h.ord ho fun k hk e => h.nmb (by rw [← show k = mb from e]; exact hk)
  map := hm
  keys := fun y => by
    unfold updI
    by_cases e : y = b
    · rw [if_pos e, e, ← h.keys b, hb]; simp
    · rw [if_neg e]; exact h.keys y
  dat := fun y l v hy => by
    unfold updI at hy
    split at hy
    · injection hy with hy
      rw [hy] at hd
      exact hd
    · exact (h.dat y l v hy).far (ho.mono fun k hk => .inl (.inr hk))
  ncb := h.ncb
  nmb := h.nmb
  right := h.right
  t1 := h.t1
  t3 := h.t3
  hin := by
    obtain ⟨A, n, cp, e, h8, h9⟩ := h.hin
    exact ⟨A, n, cp, e, h8.far ho fun h0 k hk => (h9 h0 k (e ▸ hk)).2.2, h9⟩
set_option maxHeartbeats 4000000
set_option maxRecDepth 100000
theorem cch_set_no {b : Int} {dl : List Int} {dv : Value} (h : CchB K i w cb mb c hv tier s D) (hb : D b = none) (hby : Byt w dv dl) :
    Calls Tryz.prog 94 #[.pointer (some ⟨cb, 0, none⟩), .agg #[.int .i64 b, dv]] w fun e w' => e = .returned (.bool false) ∧ Only Non w w' := by
  obtain ⟨dA, dc, rfl, hdc, hdm, hsrc⟩ := id hby
  have HBF := Lib.hid (Box.fresh w 38 #[.int .i64 b, .slice dA dl.length dc])
  have HO1 := Lib.hid ((Only.refl Non w).alloc (.cells #[.int .i64 b, .slice dA dl.length dc] 38))
  have H := Lib.hid (h.keep HO1.out)
  have HB1 := Lib.hid (hby.only HO1.out fun _ _ => id)
  have HH : Hid (∀ w', Only Non (w.alloc (.cells #[.int .i64 b, .slice dA dl.length dc] 38)) w' → Calls Tryz.prog 28 #[.pointer (some ⟨cb, 0, none⟩), .int .i64 b] w' fun e w'' => e = .returned (.bool false) ∧ Only Non w' w'') := Lib.hid fun w' hw => by
    have := cch_has b (H.out.keep hw)
    rw [decide_eq_false (h.out_ hb)] at this
    exact this
  have HSZ := Lib.hid (show (W : World) → Only Non (w.alloc (.cells #[.int .i64 b, .slice dA dl.length dc] 38)) W → W.cell? ⟨cb, 3, none⟩ = some (.int .i64 (c.f 3)) from fun W ho => (H.out.keep ho).box.cellAt (cch_f _ _ _ _ _ _ (by decide)))
  generalize c.f 3 = sz at *
  clear h hb hby hsrc hdc hdm
  go_enter Tryz.func94, Tryz.ntmps94
  go_upto_region 1 with fail
  change Code.wp _ _ _ _ (w.alloc (.cells #[.int .i64 b, .slice dA dl.length dc] 38))
  generalize w.alloc (.cells #[.int .i64 b, .slice dA dl.length dc] 38) = W1 at *
  obtain ⟨fb, hfb⟩ : ∃ fb, fb = w.heap.size := ⟨_, rfl⟩
  have HFB := Lib.hid (show w.heap.size ≤ fb from Nat.le_of_eq hfb.symm)
  rw [← hfb] at HBF ⊢
  clear hfb
  have k1 : W1.drew.cell? ⟨fb, 0, none⟩ = some (.int .i64 b) := HBF.out.cellAt rfl
  have k2 : W1.drew.cell? ⟨fb, 1, none⟩ = some (.slice dA dl.length dc) := HBF.out.cellAt rfl
  have k3 := HSZ.out W1.drew ((Only.refl Non W1).drew)
  clear HSZ
  refine wp_region_tail (S := (fun w' : World => w'.cell? ⟨fb, 0, none⟩ = some (.int .i64 b) ∧ w'.cell? ⟨fb, 1, none⟩ = some (.slice dA dl.length dc) ∧ w'.cell? ⟨cb, 3, none⟩ = some (.int .i64 sz))) 15 (by kernel_rfl) (by kernel_rfl) ?_ ?_
  · exact ⟨by assumption, by assumption, by assumption⟩
  intro hSS
  refine wpHd_take (i := 0) (v := ?_) (by kernel_rfl) rfl (by kernel_rfl) (fun _ _ _ h => h) (.inl ⟨by rfl, ?_⟩) hSS ?_
  rotate_left
  · intro w hSw; (try dsimp only at hSw); go_simp; (try with_reducible rfl)
  refine wpHd_take (i := 1) (v := ?_) (by kernel_rfl) rfl (by kernel_rfl) (fun _ _ _ h => h) (.inl ⟨by rfl, ?_⟩) hSS ?_
  rotate_left
  · intro w hSw; (try dsimp only at hSw); go_simp; (try with_reducible rfl)
  refine wpHd_take (i := 2) (v := ?_) (by kernel_rfl) rfl (by kernel_rfl) (fun _ _ _ h => h) (.inl ⟨by rfl, ?_⟩) hSS ?_
  rotate_left
  · intro w hSw; (try dsimp only at hSw); go_simp; (try with_reducible rfl)
  try simp only [Act.put, List.getElem_toArray, List.getElem_cons_succ, List.getElem_cons_zero, List.setIfInBounds_toArray, List.set_cons_zero, List.set_cons_succ]
  refine wpHd_one (i := 3) rfl (by kernel_rfl) (fun K hK => ?_)
  go_simp
  refine (HH.out W1.drew ((Only.refl Non W1).drew)).mono ?_
  rintro e W2 ⟨rfl, ho2⟩
  have HO2 := Lib.hid ((Only.refl Non W1).drew.trans ho2)
  have k1 := ho2.cell hSS.1 id
  have k2 := ho2.cell hSS.2.1 id
  have k3 := ho2.cell hSS.2.2 id
  clear ho2
  refine hK.out _ _ ?_ (fun hSS => ?_)
  · exact ⟨by assumption, by assumption, by assumption⟩
  clear hK
  refine wpHd_take (i := 4) (v := ?_) (by kernel_rfl) rfl (by kernel_rfl) (fun _ _ _ h => h) (.inl ⟨by rfl, ?_⟩) hSS ?_
  rotate_left
  · intro w hSw; (try dsimp only at hSw); go_simp; (try with_reducible rfl)
  refine wpHd_take (i := 5) (v := ?_) (by kernel_rfl) rfl (by kernel_rfl) (fun _ _ _ h => h) (.inl ⟨by rfl, ?_⟩) hSS ?_
  rotate_left
  · intro w hSw; (try dsimp only at hSw); go_simp; (try with_reducible rfl)
  refine wpHd_take (i := 6) (v := undef) (by kernel_rfl) rfl (by kernel_rfl) (fun _ _ _ h => h) (Or.inr ⟨by rfl, rfl⟩) (by assumption) ?_
  refine wpHd_take (i := 7) (v := undef) (by kernel_rfl) rfl (by kernel_rfl) (fun _ _ _ h => h) (Or.inr ⟨by rfl, rfl⟩) (by assumption) ?_
  refine wpHd_take (i := 8) (v := undef) (by kernel_rfl) rfl (by kernel_rfl) (fun _ _ _ h => h) (Or.inr ⟨by rfl, rfl⟩) (by assumption) ?_
  try simp only [Act.put, List.getElem_toArray, List.getElem_cons_succ, List.getElem_cons_zero, List.setIfInBounds_toArray, List.set_cons_zero, List.set_cons_succ]
  refine wpHd_take (i := 9) (v := undef) (by kernel_rfl) rfl (by kernel_rfl) (fun _ _ _ h => h) (Or.inr ⟨by rfl, rfl⟩) (by assumption) ?_
  refine wpHd_take (i := 10) (v := undef) (by kernel_rfl) rfl (by kernel_rfl) (fun _ _ _ h => h) (Or.inr ⟨by rfl, rfl⟩) (by assumption) ?_
  refine wpHd_take (i := 11) (v := undef) (by kernel_rfl) rfl (by kernel_rfl) (fun _ _ _ h => h) (Or.inr ⟨by rfl, rfl⟩) (by assumption) ?_
  refine wpHd_take (i := 12) (v := undef) (by kernel_rfl) rfl (by kernel_rfl) (fun _ _ _ h => h) (Or.inr ⟨by rfl, rfl⟩) (by assumption) ?_
  refine wpHd_take (i := 13) (v := undef) (by kernel_rfl) rfl (by kernel_rfl) (fun _ _ _ h => h) (Or.inr ⟨by rfl, rfl⟩) (by assumption) ?_
  try simp only [Act.put, List.getElem_toArray, List.getElem_cons_succ, List.getElem_cons_zero, List.setIfInBounds_toArray, List.set_cons_zero, List.set_cons_succ]
  refine wpHd_take (i := 14) (v := undef) (by kernel_rfl) rfl (by kernel_rfl) (fun _ _ _ h => h) (Or.inr ⟨by rfl, rfl⟩) (by assumption) ?_
  try simp only [Act.put, List.getElem_toArray, List.getElem_cons_succ, List.getElem_cons_zero, List.setIfInBounds_toArray, List.set_cons_zero, List.set_cons_succ]
  refine wpHd_end (by kernel_rfl) ?_
  clear hSS k1 k2 k3
  go_wp2
  go_ret
  exact ⟨rfl, HO1.out.trans HO2.out⟩
theorem cch_set_len {b : Int} {dl : List Int} {dv : Value} {p : Blk} (h : CchB K i w cb mb c hv tier s D) (hb : D b = some p) (hby : Byt w dv dl) (hl : (dl.length : Int) ≠ c.f 3) :
    Calls Tryz.prog 94 #[.pointer (some ⟨cb, 0, none⟩), .agg #[.int .i64 b, dv]] w fun e w' => e = .returned (.bool false) ∧ Only Non w w' := by
  obtain ⟨dA, dc, rfl, hdc, hdm, hsrc⟩ := id hby
  have HBF := Lib.hid (Box.fresh w 38 #[.int .i64 b, .slice dA dl.length dc])
  have HO1 := Lib.hid ((Only.refl Non w).alloc (.cells #[.int .i64 b, .slice dA dl.length dc] 38))
  have H := Lib.hid (h.keep HO1.out)
  have HB1 := Lib.hid (hby.only HO1.out fun _ _ => id)
  have HH : Hid (∀ w', Only Non (w.alloc (.cells #[.int .i64 b, .slice dA dl.length dc] 38)) w' → Calls Tryz.prog 28 #[.pointer (some ⟨cb, 0, none⟩), .int .i64 b] w' fun e w'' => e = .returned (.bool true) ∧ Only Non w' w'') := Lib.hid fun w' hw => by
    have := cch_has b (H.out.keep hw)
    rw [decide_eq_true (h.in_ hb)] at this
    exact this
  have HSZ := Lib.hid (show (W : World) → Only Non (w.alloc (.cells #[.int .i64 b, .slice dA dl.length dc] 38)) W → W.cell? ⟨cb, 3, none⟩ = some (.int .i64 (c.f 3)) from fun W ho => (H.out.keep ho).box.cellAt (cch_f _ _ _ _ _ _ (by decide)))
  generalize c.f 3 = sz at *
  have hne : ((dl.length : Int) != sz) = true := by simpa using hl
  clear hl
  clear h hb hby hsrc hdc hdm
  go_enter Tryz.func94, Tryz.ntmps94
  go_upto_region 1 with fail
  change Code.wp _ _ _ _ (w.alloc (.cells #[.int .i64 b, .slice dA dl.length dc] 38))
  generalize w.alloc (.cells #[.int .i64 b, .slice dA dl.length dc] 38) = W1 at *
  obtain ⟨fb, hfb⟩ : ∃ fb, fb = w.heap.size := ⟨_, rfl⟩
  have HFB := Lib.hid (show w.heap.size ≤ fb from Nat.le_of_eq hfb.symm)
  rw [← hfb] at HBF ⊢
  clear hfb
  have k1 : W1.drew.cell? ⟨fb, 0, none⟩ = some (.int .i64 b) := HBF.out.cellAt rfl
  have k2 : W1.drew.cell? ⟨fb, 1, none⟩ = some (.slice dA dl.length dc) := HBF.out.cellAt rfl
  have k3 := HSZ.out W1.drew ((Only.refl Non W1).drew)
  clear HSZ
  refine wp_region_tail (S := (fun w' : World => w'.cell? ⟨fb, 0, none⟩ = some (.int .i64 b) ∧ w'.cell? ⟨fb, 1, none⟩ = some (.slice dA dl.length dc) ∧ w'.cell? ⟨cb, 3, none⟩ = some (.int .i64 sz))) 15 (by kernel_rfl) (by kernel_rfl) ?_ ?_
  · exact ⟨by assumption, by assumption, by assumption⟩
  intro hSS
  refine wpHd_take (i := 0) (v := ?_) (by kernel_rfl) rfl (by kernel_rfl) (fun _ _ _ h => h) (.inl ⟨by rfl, ?_⟩) hSS ?_
  rotate_left
  · intro w hSw; (try dsimp only at hSw); go_simp; (try with_reducible rfl)
  refine wpHd_take (i := 1) (v := ?_) (by kernel_rfl) rfl (by kernel_rfl) (fun _ _ _ h => h) (.inl ⟨by rfl, ?_⟩) hSS ?_
  rotate_left
  · intro w hSw; (try dsimp only at hSw); go_simp; (try with_reducible rfl)
  refine wpHd_take (i := 2) (v := ?_) (by kernel_rfl) rfl (by kernel_rfl) (fun _ _ _ h => h) (.inl ⟨by rfl, ?_⟩) hSS ?_
  rotate_left
  · intro w hSw; (try dsimp only at hSw); go_simp; (try with_reducible rfl)
  try simp only [Act.put, List.getElem_toArray, List.getElem_cons_succ, List.getElem_cons_zero, List.setIfInBounds_toArray, List.set_cons_zero, List.set_cons_succ]
  refine wpHd_one (i := 3) rfl (by kernel_rfl) (fun K hK => ?_)
  go_simp
  refine (HH.out W1.drew ((Only.refl Non W1).drew)).mono ?_
  rintro e W2 ⟨rfl, ho2⟩
  have HO2 := Lib.hid ((Only.refl Non W1).drew.trans ho2)
  have k1 := ho2.cell hSS.1 id
  have k2 := ho2.cell hSS.2.1 id
  have k3 := ho2.cell hSS.2.2 id
  clear ho2
  refine hK.out _ _ ?_ (fun hSS => ?_)
  · exact ⟨by assumption, by assumption, by assumption⟩
  clear hK
  refine wpHd_take (i := 4) (v := ?_) (by kernel_rfl) rfl (by kernel_rfl) (fun _ _ _ h => h) (.inl ⟨by rfl, ?_⟩) hSS ?_
  rotate_left
  · intro w hSw; (try dsimp only at hSw); go_simp; (try with_reducible rfl)
  refine wpHd_take (i := 5) (v := ?_) (by kernel_rfl) rfl (by kernel_rfl) (fun _ _ _ h => h) (.inl ⟨by rfl, ?_⟩) hSS ?_
  rotate_left
  · intro w hSw; (try dsimp only at hSw); go_simp; (try with_reducible rfl)
  refine wpHd_take (i := 6) (v := ?_) (by kernel_rfl) rfl (by kernel_rfl) (fun _ _ _ h => h) (.inl ⟨by rfl, ?_⟩) hSS ?_
  rotate_left
  · intro w hSw; (try dsimp only at hSw); go_simp; (try with_reducible rfl)
  refine wpHd_take (i := 7) (v := ?_) (by kernel_rfl) rfl (by kernel_rfl) (fun _ _ _ h => h) (.inl ⟨by rfl, ?_⟩) hSS ?_
  rotate_left
  · intro w hSw; (try dsimp only at hSw); go_simp; (try with_reducible rfl)
  refine wpHd_take (i := 8) (v := ?_) (by kernel_rfl) rfl (by kernel_rfl) (fun _ _ _ h => h) (.inl ⟨by rfl, ?_⟩) hSS ?_
  rotate_left
  · intro w hSw; (try dsimp only at hSw); go_simp; (try with_reducible rfl)
  try simp only [Act.put, List.getElem_toArray, List.getElem_cons_succ, List.getElem_cons_zero, List.setIfInBounds_toArray, List.set_cons_zero, List.set_cons_succ]
  refine wpHd_take (i := 9) (v := ?_) (by kernel_rfl) rfl (by kernel_rfl) (fun _ _ _ h => h) (.inl ⟨by rfl, ?_⟩) hSS ?_
  rotate_left
  · intro w hSw; (try dsimp only at hSw); go_simp; (try with_reducible rfl)
  refine wpHd_take (i := 10) (v := ?_) (by kernel_rfl) rfl (by kernel_rfl) (fun _ _ _ h => h) (.inl ⟨by rfl, ?_⟩) hSS ?_
  rotate_left
  · intro w hSw; (try dsimp only at hSw); go_simp; (try with_reducible rfl)
  refine wpHd_take (i := 11) (v := ?_) (by kernel_rfl) rfl (by kernel_rfl) (fun _ _ _ h => h) (.inl ⟨by rfl, ?_⟩) hSS ?_
  rotate_left
  · intro w hSw; (try dsimp only at hSw); go_simp; (try with_reducible rfl)
  refine wpHd_take (i := 12) (v := ?_) (by kernel_rfl) rfl (by kernel_rfl) (fun _ _ _ h => h) (.inl ⟨by rfl, ?_⟩) hSS ?_
  rotate_left
  · intro w hSw; (try dsimp only at hSw); go_simp; (try with_reducible rfl)
  refine wpHd_take (i := 13) (v := ?_) (by kernel_rfl) rfl (by kernel_rfl) (fun _ _ _ h => h) (.inl ⟨by rfl, ?_⟩) hSS ?_
  rotate_left
  · intro w hSw; (try dsimp only at hSw); go_simp; (try with_reducible rfl)
  try simp only [Act.put, List.getElem_toArray, List.getElem_cons_succ, List.getElem_cons_zero, List.setIfInBounds_toArray, List.set_cons_zero, List.set_cons_succ]
  refine wpHd_take (i := 14) (v := ?_) (by kernel_rfl) rfl (by kernel_rfl) (fun _ _ _ h => h) (.inl ⟨by rfl, ?_⟩) hSS ?_
  rotate_left
  · intro w hSw; (try dsimp only at hSw); go_simp; (try with_reducible rfl)
  try simp only [Act.put, List.getElem_toArray, List.getElem_cons_succ, List.getElem_cons_zero, List.setIfInBounds_toArray, List.set_cons_zero, List.set_cons_succ]
  refine wpHd_end (by kernel_rfl) ?_
  clear hSS k1 k2 k3
  go_wp2
  go_ret
  exact ⟨rfl, HO1.out.trans HO2.out⟩
def SetP (K : OKind) (i : K.ι) (cb mb : Nat) (c : CfgA) (hv : Value) (tier : Nat) (s : K.σ) (D : Int → Option Blk) (b : Int) (dl : List Int) (w : World) (e : Ending) (w' : World) : Prop :=
  ∃ vv, e = .returned (.bool true) ∧ CchB K i w' cb mb c hv tier s (updI D b (some (dl, vv))) ∧ (∀ k, ownB vv k → w.heap.size ≤ k) ∧ Only (Just mb) w w'
theorem cch_set_in {b : Int} {dl : List Int} {dv : Value} {p : Blk} (h : CchB K i w cb mb c hv tier s D) (hb : D b = some p) (hby : Byt w dv dl) (hl : (dl.length : Int) = c.f 3) :
    Calls Tryz.prog 94 #[.pointer (some ⟨cb, 0, none⟩), .agg #[.int .i64 b, dv]] w (SetP K i cb mb c hv tier s D b dl w) := by
  have HD := Lib.hid hb
  have hrg := (K.oc i).rng h.ord (h.in_ hb)
  have HI := Lib.hid (show I64 b from ⟨by omega, by omega⟩)
  have HP := Lib.hid h.right.p3
  have HLT := Lib.hid ((K.oc i).lt h.ord)
  have HCM := Lib.hid (show cb < w.heap.size ∧ mb < w.heap.size from ⟨h.box.lt, h.map.lt⟩)
  clear hrg
  obtain ⟨dA, dc, rfl, hdc, hdm, hsrc⟩ := id hby
  have HBF := Lib.hid (Box.fresh w 38 #[.int .i64 b, .slice dA dl.length dc])
  have HO1 := Lib.hid ((Only.refl Non w).alloc (.cells #[.int .i64 b, .slice dA dl.length dc] 38))
  have H := Lib.hid (h.keep HO1.out)
  have HB1 := Lib.hid (hby.only HO1.out fun _ _ => id)
  have HH : Hid (∀ w', Only Non (w.alloc (.cells #[.int .i64 b, .slice dA dl.length dc] 38)) w' → Calls Tryz.prog 28 #[.pointer (some ⟨cb, 0, none⟩), .int .i64 b] w' fun e w'' => e = .returned (.bool true) ∧ Only Non w' w'') := Lib.hid fun w' hw => by
    have := cch_has b (H.out.keep hw)
    rw [decide_eq_true (h.in_ hb)] at this
    exact this
  have HSZ := Lib.hid (show (W : World) → Only Non (w.alloc (.cells #[.int .i64 b, .slice dA dl.length dc] 38)) W → W.cell? ⟨cb, 3, none⟩ = some (.int .i64 (c.f 3)) from fun W ho => (H.out.keep ho).box.cellAt (cch_f _ _ _ _ _ _ (by decide)))
  have HL := Lib.hid hl
  generalize hsz : c.f 3 = sz at *
  have HSZZ := Lib.hid hsz
  clear hsz
  have hne : ((dl.length : Int) != sz) = false := by simpa using hl
  clear hl
  clear h hb hby hsrc hdc hdm
  go_enter Tryz.func94, Tryz.ntmps94
  go_upto_region 1 with fail
  change Code.wp _ _ _ _ (w.alloc (.cells #[.int .i64 b, .slice dA dl.length dc] 38))
  generalize w.alloc (.cells #[.int .i64 b, .slice dA dl.length dc] 38) = W1 at *
  obtain ⟨fb, hfb⟩ : ∃ fb, fb = w.heap.size := ⟨_, rfl⟩
  have HFB := Lib.hid (show w.heap.size ≤ fb from Nat.le_of_eq hfb.symm)
  rw [← hfb] at HBF ⊢
  clear hfb
  have k1 : W1.drew.cell? ⟨fb, 0, none⟩ = some (.int .i64 b) := HBF.out.cellAt rfl
  have k2 : W1.drew.cell? ⟨fb, 1, none⟩ = some (.slice dA dl.length dc) := HBF.out.cellAt rfl
  have k3 := HSZ.out W1.drew ((Only.refl Non W1).drew)
  clear HSZ
  refine wp_region_tail (S := (fun w' : World => w'.cell? ⟨fb, 0, none⟩ = some (.int .i64 b) ∧ w'.cell? ⟨fb, 1, none⟩ = some (.slice dA dl.length dc) ∧ w'.cell? ⟨cb, 3, none⟩ = some (.int .i64 sz))) 15 (by kernel_rfl) (by kernel_rfl) ?_ ?_
  · exact ⟨by assumption, by assumption, by assumption⟩
  intro hSS
  refine wpHd_take (i := 0) (v := ?_) (by kernel_rfl) rfl (by kernel_rfl) (fun _ _ _ h => h) (.inl ⟨by rfl, ?_⟩) hSS ?_
  rotate_left
  · intro w hSw; (try dsimp only at hSw); go_simp; (try with_reducible rfl)
  refine wpHd_take (i := 1) (v := ?_) (by kernel_rfl) rfl (by kernel_rfl) (fun _ _ _ h => h) (.inl ⟨by rfl, ?_⟩) hSS ?_
  rotate_left
  · intro w hSw; (try dsimp only at hSw); go_simp; (try with_reducible rfl)
  refine wpHd_take (i := 2) (v := ?_) (by kernel_rfl) rfl (by kernel_rfl) (fun _ _ _ h => h) (.inl ⟨by rfl, ?_⟩) hSS ?_
  rotate_left
  · intro w hSw; (try dsimp only at hSw); go_simp; (try with_reducible rfl)
  try simp only [Act.put, List.getElem_toArray, List.getElem_cons_succ, List.getElem_cons_zero, List.setIfInBounds_toArray, List.set_cons_zero, List.set_cons_succ]
  refine wpHd_one (i := 3) rfl (by kernel_rfl) (fun K hK => ?_)
  go_simp
  refine (HH.out W1.drew ((Only.refl Non W1).drew)).mono ?_
  rintro e W2 ⟨rfl, ho2⟩
  have HO2 := Lib.hid ((Only.refl Non W1).drew.trans ho2)
  have k1 := ho2.cell hSS.1 id
  have k2 := ho2.cell hSS.2.1 id
  have k3 := ho2.cell hSS.2.2 id
  clear ho2
  refine hK.out _ _ ?_ (fun hSS => ?_)
  · exact ⟨by assumption, by assumption, by assumption⟩
  clear hK
  refine wpHd_take (i := 4) (v := ?_) (by kernel_rfl) rfl (by kernel_rfl) (fun _ _ _ h => h) (.inl ⟨by rfl, ?_⟩) hSS ?_
  rotate_left
  · intro w hSw; (try dsimp only at hSw); go_simp; (try with_reducible rfl)
  refine wpHd_take (i := 5) (v := ?_) (by kernel_rfl) rfl (by kernel_rfl) (fun _ _ _ h => h) (.inl ⟨by rfl, ?_⟩) hSS ?_
  rotate_left
  · intro w hSw; (try dsimp only at hSw); go_simp; (try with_reducible rfl)
  refine wpHd_take (i := 6) (v := ?_) (by kernel_rfl) rfl (by kernel_rfl) (fun _ _ _ h => h) (.inl ⟨by rfl, ?_⟩) hSS ?_
  rotate_left
  · intro w hSw; (try dsimp only at hSw); go_simp; (try with_reducible rfl)
  refine wpHd_take (i := 7) (v := ?_) (by kernel_rfl) rfl (by kernel_rfl) (fun _ _ _ h => h) (.inl ⟨by rfl, ?_⟩) hSS ?_
  rotate_left
  · intro w hSw; (try dsimp only at hSw); go_simp; (try with_reducible rfl)
  refine wpHd_take (i := 8) (v := ?_) (by kernel_rfl) rfl (by kernel_rfl) (fun _ _ _ h => h) (.inl ⟨by rfl, ?_⟩) hSS ?_
  rotate_left
  · intro w hSw; (try dsimp only at hSw); go_simp; (try with_reducible rfl)
  try simp only [Act.put, List.getElem_toArray, List.getElem_cons_succ, List.getElem_cons_zero, List.setIfInBounds_toArray, List.set_cons_zero, List.set_cons_succ]
  refine wpHd_take (i := 9) (v := ?_) (by kernel_rfl) rfl (by kernel_rfl) (fun _ _ _ h => h) (.inl ⟨by rfl, ?_⟩) hSS ?_
  rotate_left
  · intro w hSw; (try dsimp only at hSw); go_simp; (try with_reducible rfl)
  refine wpHd_take (i := 10) (v := ?_) (by kernel_rfl) rfl (by kernel_rfl) (fun _ _ _ h => h) (.inl ⟨by rfl, ?_⟩) hSS ?_
  rotate_left
  · intro w hSw; (try dsimp only at hSw); go_simp; (try with_reducible rfl)
  refine wpHd_take (i := 11) (v := ?_) (by kernel_rfl) rfl (by kernel_rfl) (fun _ _ _ h => h) (.inl ⟨by rfl, ?_⟩) hSS ?_
  rotate_left
  · intro w hSw; (try dsimp only at hSw); go_simp; (try with_reducible rfl)
  refine wpHd_take (i := 12) (v := ?_) (by kernel_rfl) rfl (by kernel_rfl) (fun _ _ _ h => h) (.inl ⟨by rfl, ?_⟩) hSS ?_
  rotate_left
  · intro w hSw; (try dsimp only at hSw); go_simp; (try with_reducible rfl)
  refine wpHd_take (i := 13) (v := ?_) (by kernel_rfl) rfl (by kernel_rfl) (fun _ _ _ h => h) (.inl ⟨by rfl, ?_⟩) hSS ?_
  rotate_left
  · intro w hSw; (try dsimp only at hSw); go_simp; (try with_reducible rfl)
  try simp only [Act.put, List.getElem_toArray, List.getElem_cons_succ, List.getElem_cons_zero, List.setIfInBounds_toArray, List.set_cons_zero, List.set_cons_succ]
  refine wpHd_take (i := 14) (v := ?_) (by kernel_rfl) rfl (by kernel_rfl) (fun _ _ _ h => h) (.inl ⟨by rfl, ?_⟩) hSS ?_
  rotate_left
  · intro w hSw; (try dsimp only at hSw); go_simp; (try with_reducible rfl)
  try simp only [Act.put, List.getElem_toArray, List.getElem_cons_succ, List.getElem_cons_zero, List.setIfInBounds_toArray, List.set_cons_zero, List.set_cons_succ]
  refine wpHd_end (by kernel_rfl) ?_
  clear hSS k1 k2 k3 hne HH
  go_upto_region 3 with fail
  have H2 := Lib.hid (H.out.keep HO2.out)
  have HF2 := Lib.hid (HO2.out.box HBF.out id)
  have HBY2 := Lib.hid (show Byt W2.drew (.slice dA dl.length dc) dl from HB1.out.only HO2.out.drew fun _ _ => id)
  clear H HBF HB1
  have k1 : W2.drew.cell? ⟨fb, 0, none⟩ = some (.int .i64 b) := HF2.out.cellAt rfl
  have k2 : W2.drew.cell? ⟨fb, 1, none⟩ = some (.slice dA dl.length dc) := HF2.out.cellAt rfl
  have k3 : W2.drew.cell? ⟨cb, 19, none⟩ = some (.map (some mb)) := H2.out.box.cellAt (cch_m _ _ _ _ _ _)
  refine wp_region_tail (S := (fun w' : World => w'.cell? ⟨fb, 0, none⟩ = some (.int .i64 b) ∧ w'.cell? ⟨fb, 1, none⟩ = some (.slice dA dl.length dc) ∧ w'.cell? ⟨cb, 19, none⟩ = some (.map (some mb)))) 9 (by kernel_rfl) (by kernel_rfl) ?_ ?_
  · exact ⟨by assumption, by assumption, by assumption⟩
  intro hSS
  refine wpHd_take (i := 0) (v := ?_) (by kernel_rfl) rfl (by kernel_rfl) (fun _ _ _ h => h) (.inl ⟨by rfl, ?_⟩) hSS ?_
  rotate_left
  · intro w hSw; (try dsimp only at hSw); go_simp; (try with_reducible rfl)
  refine wpHd_take (i := 1) (v := ?_) (by kernel_rfl) rfl (by kernel_rfl) (fun _ _ _ h => h) (.inl ⟨by rfl, ?_⟩) hSS ?_
  rotate_left
  · intro w hSw; (try dsimp only at hSw); go_simp; (try with_reducible rfl)
  refine wpHd_take (i := 2) (v := ?_) (by kernel_rfl) rfl (by kernel_rfl) (fun _ _ _ h => h) (.inl ⟨by rfl, ?_⟩) hSS ?_
  rotate_left
  · intro w hSw; (try dsimp only at hSw); go_simp; (try with_reducible rfl)
  refine wpHd_take (i := 3) (v := ?_) (by kernel_rfl) rfl (by kernel_rfl) (fun _ _ _ h => h) (.inl ⟨by rfl, ?_⟩) hSS ?_
  rotate_left
  · intro w hSw; (try dsimp only at hSw); go_simp; (try with_reducible rfl)
  refine wpHd_take (i := 4) (v := ?_) (by kernel_rfl) rfl (by kernel_rfl) (fun _ _ _ h => h) (.inl ⟨by rfl, ?_⟩) hSS ?_
  rotate_left
  · intro w hSw; (try dsimp only at hSw); go_simp; (try with_reducible rfl)
  try simp only [Act.put, List.getElem_toArray, List.getElem_cons_succ, List.getElem_cons_zero, List.setIfInBounds_toArray, List.set_cons_zero, List.set_cons_succ]
  refine wpHd_take (i := 5) (v := ?_) (by kernel_rfl) rfl (by kernel_rfl) (fun _ _ _ h => h) (.inl ⟨by rfl, ?_⟩) hSS ?_
  rotate_left
  · intro w hSw; (try dsimp only at hSw); go_simp; (try with_reducible rfl)
  refine wpHd_take (i := 6) (v := ?_) (by kernel_rfl) rfl (by kernel_rfl) (fun _ _ _ h => h) (.inl ⟨by rfl, ?_⟩) hSS ?_
  rotate_left
  · intro w hSw; (try dsimp only at hSw); go_simp; (try with_reducible rfl)
  refine wpHd_take (i := 7) (v := ?_) (by kernel_rfl) rfl (by kernel_rfl) (fun _ _ _ h => h) (.inl ⟨by rfl, ?_⟩) hSS ?_
  rotate_left
  · intro w hSw; (try dsimp only at hSw); go_simp; (try with_reducible rfl)
  try simp only [Act.put, List.getElem_toArray, List.getElem_cons_succ, List.getElem_cons_zero, List.setIfInBounds_toArray, List.set_cons_zero, List.set_cons_succ]
  refine wpHd_one (i := 8) rfl (by kernel_rfl) (fun K hK => ?_)
  go_simp
  refine (clone_any _ dl W2.drew HBY2.out).mono ?_
  rintro e W3 ⟨vv, rfl, hrow3, ho3, hnew3⟩
  have HV3 := Lib.hid hrow3
  have HO3 := Lib.hid ((Only.refl Non W2).drew.trans ho3)
  have HN3 := Lib.hid hnew3
  have k1 := ho3.cell hSS.1 id
  have k2 := ho3.cell hSS.2.1 id
  have k3 := ho3.cell hSS.2.2 id
  clear hrow3 ho3 hnew3
  refine hK.out _ _ ?_ (fun hSS => ?_)
  · exact ⟨by assumption, by assumption, by assumption⟩
  clear hK
  try simp only [Act.put, List.getElem_toArray, List.getElem_cons_succ, List.getElem_cons_zero, List.setIfInBounds_toArray, List.set_cons_zero, List.set_cons_succ]
  refine wpHd_end (by kernel_rfl) ?_
  clear hSS k1 k2 k3
  have H3 := Lib.hid (H2.out.keep HO3.out)
  refine wpList_put_i W3 rfl _ _ _ rfl lawB Tryz.underlying3 mb (vOf D) b vv rfl rfl rfl H3.out.map HI.out ?_
  intro W4 hm4 ho4
  have HM4 := Lib.hid hm4
  have HO4 := Lib.hid ho4
  clear hm4 ho4
  go_wp2
  go_ret
  have hm := HM4.out
  have hs1 := HO1.out.size
  have hs2 := HO2.out.size
  have hs3 := HO3.out.size
  have hn : ∀ k, ownB vv k → w.heap.size ≤ k := fun k hk => by
    have h9 := HN3.out k hk
    have : W2.drew.heap.size = W2.heap.size := rfl
    omega
  rw [vOf_set D b (dl, vv)] at hm
  refine ⟨vv, rfl, H3.out.other HD.out hm HO4.out ?_, hn, (((HO1.out.trans HO2.out).trans HO3.out).mono fun _ hk => hk.elim).trans HO4.out⟩
  have h3 := HP.out
  have hl := HL.out
  have hby3 : Byt W3 vv dl := HV3.out.byt (by omega)
  rcases HV3.out with ⟨_, e⟩ | ⟨g, cap, cur, rfl, hbx, _⟩
  · exfalso
    have : dl = [] := by simpa [bytes] using e
    rw [this] at hl
    simp at hl
    omega
  · have h9 := hn g (ownB_slice.2 rfl)
    have hlt := hbx.lt
    have hcm := HCM.out
    have hmbne : g ≠ mb := by omega
    refine ⟨by rw [HSZZ.out]; exact hl, RowB.only ⟨hby3, fun k hk => ⟨cur, by rw [← ownB_slice.1 hk]; exact hbx⟩⟩ HO4.out fun k hk e => ?_, g, cap, by simp [bytes], Nat.lt_of_lt_of_le hlt HO4.out.size, by omega, hmbne, fun hk => by have := HLT.out g hk; omega⟩
    have h1 := ownB_slice.1 hk
    have h2 : k = mb := e
    omega
end
end Go.Proofs.YtodephhlhdbeoaaGreat
namespace Go.Proofs.YtodephhlhdbeoaaGreat
open Go.RowKit Go.ChangeShapes Go.WideShapes Go.MapKept Go.Maps
set_option linter.unusedVariables false
set_option linter.unusedSimpArgs false
theorem cch_cfg (c : CfgA) (hv : Value) (tier : Nat) (t : TypeId) (x : Value) (mb : Nat) {j : Nat} {v : Value} (hj : (cfgCells c hv).toList[j]? = some v) : (cchCells c hv tier t x mb)[j]? = some v := by
  have hlt := (List.getElem?_eq_some_iff.1 hj).1
  unfold cchCells
  rw [Array.getElem?_append_left (by simpa using hlt), ← Array.getElem?_toList]
  exact hj
theorem cch_seto (c : CfgA) (hv : Value) (tier : Nat) (t t' : TypeId) (x x' : Value) (mb : Nat) : (cchCells c hv tier t x mb).setIfInBounds 18 (.iface t' x') = cchCells c hv tier t' x' mb := by rfl
section
variable {KO : OKind} {i : KO.ι} {w : World} {cb mb : Nat} {c : CfgA} {hv : Value} {tier : Nat} {s : KO.σ} {D : Int → Option Blk}
def ClearP (KO : OKind) (cb mb : Nat) (c : CfgA) (hv : Value) (tier : Nat) (w : World) (e : Ending) (w' : World) : Prop :=
  ∃ i', e = .returned (.tuple #[]) ∧ CchB KO i' w' cb mb c hv tier KO.s0 (fun _ => none) ∧ (∀ k, KO.F i' k → w.heap.size ≤ k) ∧ Only (fun k => k = mb ∨ k = cb) w w'
set_option maxHeartbeats 4000000
set_option maxRecDepth 100000
theorem cch_clear (hK : KO.Made c tier) (h : CchB KO i w cb mb c hv tier s D) :
    Calls Tryz.prog 22 #[.pointer (some ⟨cb, 0, none⟩)] w (ClearP KO cb mb c hv tier w) := by
  have HK := Lib.hid hK
  have H := Lib.hid h
  obtain ⟨A, n, cp, rfl, hin, hH⟩ := h.hin
  have x1 : w.cell? ⟨cb, 19, none⟩ = some (.map (some mb)) := h.box.cellAt (cch_m _ _ _ _ _ _)
  obtain ⟨u1, W2, hrun, hm2, ho2⟩ := run_clear_i (P := Tryz.prog) h.map lawB 0
  have HIN := Lib.hid (hin.far ho2 fun h0 k hk => (hH h0 k hk).2.2)
  have HB2 := Lib.hid (ho2.box h.box h.cm)
  have HM2 := Lib.hid hm2
  have HO2 := Lib.hid ho2
  have HHH := Lib.hid hH
  have HLH := Lib.hid h.ltH
  clear h hin hm2 ho2 hH hK
  go_enter Tryz.func22, Tryz.ntmps22
  go_upto_region 2 with fail
  clear x1 hrun
  refine wp_region_tail (S := (fun w' : World => Box w' cb 147 (cchCells c (.slice A n cp) tier KO.t (KO.x i) mb))) 10 (by kernel_rfl) (by kernel_rfl) ?_ ?_
  · first | exact hB3 | exact HB2.out
  intro hSS
  refine wpHd_take (i := 0) (v := ?_) (by kernel_rfl) rfl (by kernel_rfl) (fun _ _ _ h => h) (.inl ⟨by rfl, ?_⟩) hSS ?_
  rotate_left
  · intro w hSw; (try dsimp only at hSw); go_simp; (try with_reducible rfl)
  refine wpHd_take (i := 1) (v := ?_) (by kernel_rfl) rfl (by kernel_rfl) (fun _ _ _ h => h) (.inl ⟨by rfl, ?_⟩) hSS ?_
  rotate_left
  · intro w hSw; (try dsimp only at hSw); go_simp; (try with_reducible rfl)
  refine wpHd_take (i := 2) (v := ?_) (by kernel_rfl) rfl (by kernel_rfl) (fun _ _ _ h => h) (.inl ⟨by rfl, ?_⟩) hSS ?_
  rotate_left
  · intro w hSw; (try dsimp only at hSw); go_simp; (try with_reducible rfl)
  refine wpHd_take (i := 3) (v := ?_) (by kernel_rfl) rfl (by kernel_rfl) (fun _ _ _ h => h) (.inl ⟨by rfl, ?_⟩) hSS ?_
  rotate_left
  · intro w hSw; (try dsimp only at hSw); go_simp; (try with_reducible rfl)
  refine wpHd_take (i := 4) (v := .agg (cfgCells c (.slice A n cp))) (by kernel_rfl) rfl (by kernel_rfl) (fun _ _ _ h => h) (yieldsIf_load_mid (by rfl) 25 _ rfl cb 0 rfl (cfgCells c (.slice A n cp)).toList _ (fun w hw j v hj => by rw [Nat.zero_add]; exact hw.cellAt (cch_cfg c (.slice A n cp) tier KO.t (KO.x i) mb hj)) Tryz.underlying25 rfl (by kernel_rfl)) (by assumption) ?_
  try simp only [Act.put, List.getElem_toArray, List.getElem_cons_succ, List.getElem_cons_zero, List.setIfInBounds_toArray, List.set_cons_zero, List.set_cons_succ]
  refine wpHd_take (i := 5) (v := ?_) (by kernel_rfl) rfl (by kernel_rfl) (fun _ _ _ h => h) (.inl ⟨by rfl, ?_⟩) hSS ?_
  rotate_left
  · intro w hSw; (try dsimp only at hSw); go_simp; (try with_reducible rfl)
  refine wpHd_take (i := 6) (v := ?_) (by kernel_rfl) rfl (by kernel_rfl) (fun _ _ _ h => h) (.inl ⟨by rfl, ?_⟩) hSS ?_
  rotate_left
  · intro w hSw; (try dsimp only at hSw); go_simp; (try with_reducible rfl)
  refine wpHd_take (i := 7) (v := ?_) (by kernel_rfl) rfl (by kernel_rfl) (fun _ _ _ h => h) (.inl ⟨by rfl, ?_⟩) hSS ?_
  rotate_left
  · intro w hSw; (try dsimp only at hSw); go_simp; (try with_reducible rfl)
  refine wpHd_take (i := 8) (v := .int .i64 tier) (by kernel_rfl) rfl (by kernel_rfl) (fun _ _ _ h => h) (.inl ⟨by rfl, ?_⟩) hSS ?_
  · intro w hSw; have hx := hSw.cellAt (cch_tier c (.slice A n cp) tier KO.t (KO.x i) mb); go_simp; (try with_reducible rfl)
  try simp only [Act.put, List.getElem_toArray, List.getElem_cons_succ, List.getElem_cons_zero, List.setIfInBounds_toArray, List.set_cons_zero, List.set_cons_succ]
  refine wpHd_one (i := 9) rfl (by kernel_rfl) (fun K hK => ?_)
  go_simp
  refine (HK.out W2.drew A n cp (HIN.out.keep (Only.refl Non W2).drew)).mono ?_
  rintro e W3 ⟨i', rfl, hR, hF, ho3⟩
  have hB3 := ho3.box hSS id
  have HR3 := Lib.hid hR
  have HF3 := Lib.hid hF
  have HO3 := Lib.hid ((Only.refl Non W2).drew.trans ho3)
  clear hR hF ho3
  refine hK.out _ _ ?_ (fun hSS => ?_)
  · first | exact hB3 | exact HB2.out
  clear hK
  try simp only [Act.put, List.getElem_toArray, List.getElem_cons_succ, List.getElem_cons_zero, List.setIfInBounds_toArray, List.set_cons_zero, List.set_cons_succ]
  refine wpHd_end (by kernel_rfl) ?_
  clear hSS
  have HB3 := Lib.hid hB3
  have hfr := hB3.free 18
  have hcw : W3.cell? ⟨cb, 18, none⟩ = some (.iface KO.t (KO.x i)) := hB3.cellAt (cch_o _ _ _ _ _ _)
  clear hB3
  go_wp2
  (try simp only [Exit.inBlock, Exit.then])
  refine bodyPost_ret (results_none rfl _ _ _) rfl ?_
  have h0 := H.out
  have hb4 := HB3.out.store 18 (.iface KO.t (KO.x i'))
  rw [cch_seto] at hb4
  have ho4 : Only (Just cb) W3 (W3.setCell ⟨cb, 18, none⟩ (.iface KO.t (KO.x i'))) := (Only.refl (Just cb) W3).setCell (p := ⟨cb, 18, none⟩) (.inl (show Just cb cb from rfl)) _
  have how : Only (fun k => k = mb ∨ k = cb) w (W3.setCell ⟨cb, 18, none⟩ (.iface KO.t (KO.x i'))) :=
    ((HO2.out.mono (S' := fun k => k = mb ∨ k = cb) fun k hk => .inl (.inl hk)).transN HO3.out).trans' ho4 fun k hk => .inl (.inr hk)
  have hs2 := HO2.out.size
  have hd : W2.drew.heap.size = W2.heap.size := rfl
  have hF : ∀ k, KO.F i' k → w.heap.size ≤ k := fun k hk => by have := HF3.out k hk; omega
  have hcb := h0.box.lt
  have hmb := h0.map.lt
  refine ⟨i', rfl, { box := hb4, ord := (KO.oc i').only HR3.out ho4 fun k hk e => ?_, map := (HM2.out.keep HO3.out).only ho4 fun e => h0.cm (show mb = cb from e).symm, keys := fun b => by rw [KO.nil]; simp, dat := fun b l v h => (by cases h), ncb := fun e => by have := hF _ e; omega, nmb := fun e => by have := hF _ e; omega, right := h0.right, t1 := h0.t1, t3 := h0.t3, hin := ⟨A, n, cp, rfl, (HIN.out.keep HO3.out).far ho4 fun h00 k hk => (HHH.out h00 k hk).2.1, fun h00 k hk => ⟨fun e => ?_, (HHH.out h00 k hk).2⟩⟩ }, hF, how⟩
  · have h1 := hF k hk
    have h2 : k = cb := e
    omega
  · have h1 := hF k e
    have h2 := HLH.out h00 k hk
    omega
end
end Go.Proofs.YtodephhlhdbeoaaGreat
namespace Go.Proofs.YtodephhlhdbeoaaGreat
open Go.RowKit Go.ChangeShapes Go.WideShapes
set_option linter.unusedVariables false
set_option linter.unusedSimpArgs false
def cchBlk (K : OKind) (i : K.ι) (cb mb : Nat) (c : CfgA) (hv : Value) (D : Int → Option Blk) (k : Nat) : Prop := K.F i k ∨ k = cb ∨ k = mb ∨ (∃ b l v, D b = some (l, v) ∧ ownB v k) ∨ (0 < c.h.length ∧ ownB hv k)
theorem CchB.far' {K : OKind} {i : K.ι} {w w' : World} {cb mb : Nat} {c : CfgA} {hv : Value} {tier : Nat} {s : K.σ} {D : Int → Option Blk} {S : Nat → Prop} (h : CchB K i w cb mb c hv tier s D) (ho : Only S w w') (hS : ∀ k, cchBlk K i cb mb c hv D k → ¬ S k) : CchB K i w' cb mb c hv tier s D :=
  { box := ho.box h.box (hS _ (.inr (.inl rfl))), ord := (K.oc i).only h.ord ho fun k hk => hS k (.inl hk), map := h.map.only ho (hS _ (.inr (.inr (.inl rfl)))), keys := h.keys, ncb := h.ncb, nmb := h.nmb, right := h.right, t1 := h.t1, t3 := h.t3
    dat := fun b l v hb => by
      obtain ⟨h1, h2, g, ca, rfl, h3, h4⟩ := h.dat b l v hb
      exact ⟨h1, h2.only ho fun k hk => hS k (.inr (.inr (.inr (.inl ⟨b, l, _, hb, hk⟩)))), g, ca, rfl, Nat.lt_of_lt_of_le h3 ho.size, h4⟩
    hin := by
      obtain ⟨A, n, cp, h1, h2, h3⟩ := h.hin
      exact ⟨A, n, cp, h1, h2.far ho fun h0 k hk => hS k (.inr (.inr (.inr (.inr ⟨h0, h1 ▸ hk⟩)))), h3⟩ }
theorem HintsAt.lt {w : World} {A : Option Addr} {n c : Nat} {l : List HintA} (h : HintsAt w A n c l) (h0 : 0 < l.length) {k : Nat} (hk : ownB (.slice A n c) k) : k < w.heap.size := by
  obtain ⟨g, o, e, hg, _⟩ := h.at_ 0 h0
  subst e
  rw [← ownB_slice.1 hk]
  exact hg
theorem CchB.blkLt {K : OKind} {i : K.ι} {w : World} {cb mb : Nat} {c : CfgA} {hv : Value} {tier : Nat} {s : K.σ} {D : Int → Option Blk} (h : CchB K i w cb mb c hv tier s D) {k : Nat} (hk : cchBlk K i cb mb c hv D k) : k < w.heap.size := by
  rcases hk with hk | rfl | rfl | ⟨b, l, v, hb, hk⟩ | ⟨h0, hk⟩
  · exact (K.oc i).lt h.ord k hk
  · exact h.box.lt
  · exact h.map.lt
  · obtain ⟨_, _, g, ca, rfl, h3, _⟩ := h.dat b l v hb
    rw [← ownB_slice.1 hk]
    exact h3
  · obtain ⟨A, n, cp, h1, h2, _⟩ := h.hin
    exact h2.lt h0 (h1 ▸ hk)
section
set_option maxHeartbeats 4000000
set_option maxRecDepth 100000
variable {K : OKind} {i : K.ι} {w : World} {cb mb : Nat} {c : CfgA} {hv : Value} {tier : Nat} {s : K.σ} {D : Int → Option Blk}
theorem cch_len (h : CchB K i w cb mb c hv tier s D) :
    Calls Tryz.prog 27 #[.pointer (some ⟨cb, 0, none⟩)] w fun e w' => e = .returned (.int .i64 (K.sp.all s).length) ∧ Only Non w w' := by
  have hx : w.cell? ⟨cb, 18, none⟩ = some (.iface K.t (K.x i)) := h.box.cellAt (cch_o _ _ _ _ _ _)
  have hm := (K.oc i).dlen.m
  have he := (K.oc i).dlen.e
  have HC := Lib.hid ((K.oc i).len h.ord)
  generalize (K.sp.all s).length = k at *
  clear h
  go_enter Tryz.func27, Tryz.ntmps27
  go_wp2_with (refine HC.out.mono ?_; rintro e w1 ⟨rfl, h1⟩)
  go_ret
  exact ⟨rfl, h1⟩
end
end Go.Proofs.YtodephhlhdbeoaaGreat
