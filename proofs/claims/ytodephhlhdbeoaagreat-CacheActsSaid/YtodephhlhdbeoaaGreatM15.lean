/- Several texts, one behind the other: Widf Kra Krb Alc Pra Prb Prc Prd Alb Ald Pre Prf. -/
import Derived.Test.YtodephhlhdbeoaaGreatM10
import Derived.Test.YtodephhlhdbeoaaGreatM14
import Derived.Test.YtodephhlhdbeoaaGreatM5
import Derived.Test.YtodephhlhdbeoaaGreatM1
namespace Go.Proofs.YtodephhlhdbeoaaGreat
open Go.RowKit Go.ChangeShapes Go.WideShapes Go.Shelf
set_option linter.unusedVariables false
set_option linter.unusedSimpArgs false
def frcOrd (l : FrcL) : List Nat :=
  match l.length with
  | 0 => []
  | m + 1 => (Sort.insertionSort (ltOf fun (i k : Fin (m + 1)) => frcCmp l i.val k.val) (Array.ofFn fun i => i) 0 (m + 1)).toList.map Fin.val
section
variable {α : Type} [Inhabited α] {enc : α → Value}
theorem sw_only {w W : World} {g : Nat} {d : Array α} (hg : g < w.heap.size) (S : SW enc w g 0 d W) : Only (fun k => k = g) w W := by
  obtain ⟨n, os, rfl⟩ := S
  refine ⟨rfl, rfl, rfl, ?_, fun k hk hn => ?_⟩
  · rw [show sortWorld enc w g 0 n d os = Sort.grow (Sort.putRow enc (Sort.ahead w n) g 0 d) os from rfl, Sort.size_grow, Sort.size_putRow]
    exact Nat.le_add_right _ _
  · rw [show sortWorld enc w g 0 n d os = Sort.grow (Sort.putRow enc (Sort.ahead w n) g 0 d) os from rfl, Sort.heap_grow_old _ _ (by rw [Sort.size_putRow]; exact hk)]
    show (w.heap.modify g _)[k]? = _
    rw [Array.getElem?_modify, if_neg (fun e => hn e.symm)]
theorem sw_own {w W : World} {base g cap : Nat} {cur : Array Value} {e : TypeId} {d d' : Array α} (hg : w.heap[g]? = some (.cells cur e (0, 0))) (hb : base ≤ g) (hn : d.size ≤ cap) (hm : cap ≤ maxLen) (hs : cur.size = cap * 1)
    (hz : d'.size = d.size) (S : SW enc w g 0 d' W) : W.ownsRow base e 1 (.slice (some ⟨g, 0, none⟩) d.size cap) d.size (d'.toList.map enc) := by
  have hlt : g < w.heap.size := (Array.getElem?_eq_some_iff.1 hg).1
  refine ⟨by simp [hz], .inr ⟨g, cap, Sort.putCells enc 0 d' cur, rfl, hb, ?_, hn, hm, by simp [Sort.putCells, hs], ?_⟩⟩
  · obtain ⟨n, os, rfl⟩ := S
    rw [show sortWorld enc w g 0 n d' os = Sort.grow (Sort.putRow enc (Sort.ahead w n) g 0 d') os from rfl, Sort.heap_grow_old _ _ (by rw [Sort.size_putRow]; exact hlt)]
    show (w.heap.modify g _)[g]? = _
    rw [Array.getElem?_modify, if_pos rfl, hg]
    rfl
  · rw [Nat.mul_one]
    apply List.ext_getElem?
    intro j
    by_cases hj : j < d.size
    · rw [List.getElem?_take_of_lt hj, List.getElem?_map]
      have h1 : j < cur.size := by omega
      have h2 : j < d'.size := by omega
      simp only [Sort.putCells, Array.getElem?_toList, Array.getElem?_mapIdx, Array.getElem?_eq_getElem h1, Array.getElem?_eq_getElem h2, Option.map_some]
      rw [if_pos ⟨Nat.zero_le _, by omega⟩, getElem!_pos d' (j - 0) (by omega)]
      rfl
    · rw [List.getElem?_take_eq_none (by omega), List.getElem?_eq_none (by simp; omega)]
end
theorem OwnInts.less {t : TypeId} {w : World} {base base' : Nat} {v : Value} {l : List Int} (h : OwnInts t w base v l) (hb : base' ≤ base) : OwnInts t w base' v l := by
  rcases h with ⟨hlen, ⟨rfl, h0⟩ | ⟨g, cap, cur, rfl, h1, h2⟩⟩
  · exact ⟨hlen, .inl ⟨rfl, h0⟩⟩
  · exact ⟨hlen, .inr ⟨g, cap, cur, rfl, Nat.le_trans hb h1, h2⟩⟩
theorem frcOrd_zero {l : FrcL} (h : l.length = 0) : frcOrd l = [] := by
  unfold frcOrd
  split
  · rfl
  · omega
theorem frcOrd_succ {l : FrcL} {m : Nat} (h : l.length = m + 1) : frcOrd l = (Sort.insertionSort (ltOf fun (i k : Fin (m + 1)) => frcCmp l i.val k.val) (Array.ofFn fun i => i) 0 (m + 1)).toList.map Fin.val := by
  unfold frcOrd
  split
  · omega
  · rename_i m' e
    obtain rfl : m' = m := by omega
    rfl
theorem frcOrd_len (l : FrcL) : (frcOrd l).length = l.length := by
  cases h : l.length with
  | zero => rw [frcOrd_zero h]; rfl
  | succ m =>
    rw [frcOrd_succ h, List.length_map, Array.length_toList, insertionSort_size]
    simp
section
set_option maxHeartbeats 4000000
set_option maxRecDepth 100000
theorem worder_sort {A : Option Addr} {n c bx base : Nat} {l : FrcL} {v : Value} (w : World) (hx : w.cell? ⟨bx, 0, none⟩ = some (.slice A n c)) (hbx : bx < w.heap.size) (hF : FrcsAt w A n c l) (hok : FrcsOk l) (hn : l.length < 20)
    (hown : OwnInts 3 w base v ((List.range l.length).map Int.ofNat)) (hb1 : bx < base) (hb2 : ∀ g o, A = some ⟨g, o, none⟩ → 0 < l.length → g < base) :
    Calls Tryz.prog 304 #[v, .func (.func 305) #[] #[.pointer (some ⟨bx, 0, none⟩)]] w fun e w' => e = .returned (.tuple #[]) ∧ OwnInts 3 w' base v ((frcOrd l).map Int.ofNat) ∧ Only (ownB v) w w' := by
  have hsh := hown.shape
  rcases hown with ⟨hlen, ⟨rfl, h0⟩ | ⟨g, cap, cur, rfl, hb, hg, hcap, hm, hsz, htk⟩⟩
  · have h0 : l.length = 0 := by simpa using h0
    rw [frcOrd_zero h0]
    exact (sorts_none none 0 _ w).mono fun e w' ⟨h1, h2⟩ => ⟨h1, OwnInts.nil _ _ _, h2 ▸ Only.refl _ _⟩
  · simp only [List.length_map, List.length_range] at hcap htk ⊢
    cases hl : l.length with
    | zero =>
      rw [frcOrd_zero hl]
      refine (sorts_none _ cap _ w).mono fun e w' ⟨h1, h2⟩ => ⟨h1, ?_, h2 ▸ Only.refl _ _⟩
      subst h2
      exact ⟨rfl, .inr ⟨g, cap, cur, rfl, hb, hg, Nat.zero_le _, hm, hsz, rfl⟩⟩
    | succ m =>
      have hlt : g < w.heap.size := (Array.getElem?_eq_some_iff.1 hg).1
      have hz : (Array.ofFn (n := m + 1) fun i => i).size = m + 1 := by simp
      have heg : ∀ args w, (callFunc 305 args).run Tryz.prog w = .ok (.enter 305 args) w := enters_of Tryz.func305 (by kernel_rfl) rfl
      have hH : Sort.Holds (fun i : Fin (m + 1) => Value.int .i64 i.val) w g 0 (Array.ofFn fun i => i) := fun j hj => by
        rw [hz] at hj
        have hbx : Box w g 3 cur := hg
        refine ⟨?_, hbx.free _⟩
        rw [Nat.zero_add]
        refine hbx.cellAt ?_
        have e := congrArg (fun L => L[j]?) htk
        rw [Nat.mul_one, List.getElem?_take_of_lt (by omega), Array.getElem?_toList, List.getElem?_map, List.getElem?_map, List.getElem?_range (by omega)] at e
        rw [e, getElem!_pos _ j (by rw [hz]; exact hj)]
        simp
      have hcmp : CmpLays1 Tryz.prog 305 #[.pointer (some ⟨bx, 0, none⟩)] (fun i : Fin (m + 1) => Value.int .i64 i.val) (fun i k => frcCmp l i.val k.val) g 0 (Array.ofFn (n := m + 1) fun i => i).size w := by
        intro q os dk hs x y
        have ho := sw_only (enc := fun i : Fin (m + 1) => Value.int .i64 i.val) (d := dk) hlt ⟨q, os, rfl⟩
        have h1 := ho.cell hx (show ¬ bx = g by omega)
        have h2 : FrcsAt (sortWorld (fun i : Fin (m + 1) => Value.int .i64 i.val) w g 0 q dk os) A n c l := hF.far ho fun g' o e (e2 : g' = g) => by
          have := hb2 g' o e (by omega)
          omega
        exact order2_any _ h1 (Nat.lt_of_lt_of_le hbx ho.size) h2 hok (by have := x.isLt; omega) (by have := y.isLt; omega) (by omega)
      have hS := sorts_any (fun i : Fin (m + 1) => Value.int .i64 i.val) (fun i k => frcCmp l i.val k.val) 305 #[.pointer (some ⟨bx, 0, none⟩)] g 0 cap (Array.ofFn fun i => i) w heg hcmp ⟨fun _ => rfl, hH, hlt⟩ (by rw [hz]; omega)
      rw [hz] at hS
      refine hS.mono fun e w' ⟨h1, h2⟩ => ⟨h1, ?_, ?_⟩
      · have hz2 : (Sort.insertionSort (ltOf fun (i k : Fin (m + 1)) => frcCmp l i.val k.val) (Array.ofFn fun i => i) 0 (m + 1)).size = (Array.ofFn (n := m + 1) fun i => i).size := insertionSort_size _ _ _ _
        have := sw_own (base := base) (e := 3) (d := Array.ofFn (n := m + 1) fun i => i) hg hb (by rw [hz]; omega) hm hsz hz2 h2
        rw [hz] at this
        unfold OwnInts
        rw [frcOrd_succ hl]
        rw [List.length_map, List.length_map, Array.length_toList, hz2, hz, List.map_map, List.map_map]
        exact this
      · exact (sw_only hlt h2).mono fun k hk => .inl (by rw [hk]; rfl)
end
def OrdRel (l : FrcL) (w W : World) (v i : Value) (wr : World) : Prop :=
  ∃ k : Nat, k ≤ l.length ∧ i = .int .i64 k ∧ OwnInts 3 wr W.heap.size v ((List.range k).map Int.ofNat) ∧ Only Non W wr
section
set_option maxHeartbeats 4000000
set_option maxRecDepth 100000
theorem worder_any {A : Option Addr} {n c : Nat} {l : FrcL} (w : World) (h : FrcsAt w A n c l) (hok : FrcsOk l) (hn : l.length < 20) :
    Calls Tryz.prog 293 #[.slice A n c] w fun e w' => ∃ v, e = .returned (.tuple #[v, .int .i64 0]) ∧ OwnInts 3 w' w.heap.size v ((frcOrd l).map Int.ofNat) ∧ Only Non w w' := by
  obtain rfl := h.len
  have HO := Lib.hid ((Grw.refl w).alloc (.cells #[.slice A l.length c] 380))
  have HF := Lib.hid (h.keep HO.out.only)
  have HOK := Lib.hid hok
  have HL := Lib.hid hn
  have HB := Lib.hid (Box.fresh w 380 #[.slice A l.length c])
  have HG := Lib.hid (show ∀ g o, A = some ⟨g, o, none⟩ → 0 < l.length → g < w.heap.size from fun g o e h0 => by
    obtain ⟨g', o', e', hg, _⟩ := h.at_ 0 h0
    rw [e] at e'; injection e' with e'; injection e' with e1 e2; rw [e1]; exact hg)
  clear h hok
  go_enter Tryz.func293, Tryz.ntmps293
  go_upto_region 1 with fail
  change Code.wp _ _ _ _ (w.alloc (.cells #[.slice A l.length c] 380))
  generalize w.alloc (.cells #[.slice A l.length c] 380) = W at *
  have x0 : W.cell? ⟨w.heap.size, 0, none⟩ = some (.slice A l.length c) := HB.out.cellAt rfl
  have HC := Lib.hid (wcontains_any W HF.out HOK.out (by omega))
  go_upto_region 3 with (go_at_call 301; refine HC.out.mono ?_; rintro e W1 ⟨rfl, ho1⟩)
  have HF1 := Lib.hid (HF.out.keep ho1.only)
  have HB1 := Lib.hid (ho1.only.box HB.out id)
  have HO1 := Lib.hid (HO.out.trans ho1)
  have y0 : W1.cell? ⟨w.heap.size, 0, none⟩ = some (.slice A l.length c) := HB1.out.cellAt rfl
  clear x0 HC HF HB HO ho1
  go_upto_region 7 with fail
  go_loopw [4, 13] (fun v i wr => OrdRel l w W1 v i wr) (fun _ i _ => l.length - (intOf i).toNat)
  case atStart => exact ⟨0, Nat.zero_le _, rfl, OwnInts.nil _ _ _, Only.refl _ _⟩
  case round =>
    obtain ⟨k, hk, rfl, hown, ho⟩ := hrel
    have HOW := Lib.hid hown
    have HW := Lib.hid ho
    have HSZ := Lib.hid (show W1.heap.size ≤ wr.heap.size from ho.size)
    clear hown ho
    by_cases hlt : k < l.length
    · have hlti : (k : Int) < l.length := by omega
      have HLT := Lib.hid hlt
      have HLK := Lib.hid (show ((List.range k).map Int.ofNat).length ≤ 1000000 by simp; omega)
      clear hlt hk
      go_wp2_with (at_builtin; refine wpList_pushInt _ rfl (.tmp 16) (.tmp 18) 43 3 rfl intInfo Tryz.underlying43 W1.heap.size u4 ((List.range k).map Int.ofNat) k rfl (HOW.out.alloc _) ⟨wr.heap.size, 0, none⟩ rfl (World.cell?_alloc_at _ _ _ _ rfl) HLK.out (by have := HSZ.out; rw [World.size_alloc]; omega) ?_; intro v' w1 hown' hgr)
      go_roundw
      case rel =>
        refine ⟨k + 1, HLT.out, by go_num, ?_, (HW.out.alloc _).trans' hgr fun j hj => .inr (HOW.out.lt j hj).1⟩
        rw [List.range_succ, List.map_append]; exact hown'
      case measure => simp [intOf]; have := HLT.out; omega
    · obtain rfl : k = l.length := by omega
      clear hlt hk
      go_upto_region 11 with fail
      have hlw : ∀ k, k < w.heap.size + 1 → k < W1.heap.size := fun k hk => Nat.lt_of_lt_of_le hk HB1.out.lt
      have HP := Lib.hid (worder_sort wr (HW.out.cell y0 id) (Nat.lt_of_lt_of_le HB1.out.lt HSZ.out) (HF1.out.keep HW.out) HOK.out HL.out HOW.out (hlw _ (by omega)) (fun g o e h0 => hlw _ (by have := HG.out g o e h0; omega)))
      go_wp2_with (go_at_call 304; refine HP.out.mono ?_; rintro e W2 ⟨rfl, hown2, ho2⟩)
      go_ret2
      refine ⟨_, rfl, ?_, ?_⟩
      · exact hown2.less (Nat.le_of_lt (hlw _ (by omega)))
      · exact (HO1.out.only.trans HW.out).trans' ho2 fun j hj => .inr (Nat.le_trans (Nat.le_of_lt (hlw _ (by omega))) (HOW.out.lt j hj).1)
end
end Go.Proofs.YtodephhlhdbeoaaGreat
namespace Go.Proofs.YtodephhlhdbeoaaGreat
open Go.RowKit Go.ChangeShapes Go.WideShapes
set_option linter.unusedVariables false
set_option linter.unusedSimpArgs false
def kIn (h : HintA) (b : Int) : Bool := decide (h.fr ≤ b) && decide (b < h.fr + h.size)
def rngI (l : List HintA) (b : Int) : Nat := l.findIdx fun h => kIn h b
def rngZ (l : List HintA) (b : Int) : Int := if rngI l b < l.length then (rngI l b : Int) else -1
theorem getD_el (l : List HintA) {k : Nat} (hk : k < l.length) : l.getD k default = l[k] := by simp [hk]
theorem rngI_at {l : List HintA} {b : Int} {k : Nat} (hk : k < l.length) (h : kIn (l.getD k default) b = true) (hn : ∀ j, j < k → kIn (l.getD j default) b = false) : rngI l b = k := by
  refine (List.findIdx_eq hk).2 ⟨?_, fun j hj => ?_⟩
  · rw [getD_el l hk] at h; exact h
  · have := hn j hj; rw [getD_el l (by omega)] at this; exact this
theorem rngI_end {l : List HintA} {b : Int} (hn : ∀ j, j < l.length → kIn (l.getD j default) b = false) : rngI l b = l.length := by
  refine List.findIdx_eq_length.2 fun x hx => ?_
  obtain ⟨j, hj, rfl⟩ := List.getElem_of_mem hx
  have := hn j hj; rw [getD_el l hj] at this; exact this
def hnC (h : HintA) : Array Value := #[.int .i64 h.fr, .int .i64 h.size, .int .i64 h.often, .bool h.loop]
def KxRel (l : List HintA) (b : Int) (w : World) (i : Value) (wr : World) : Prop := ∃ k : Nat, k ≤ l.length ∧ i = .int .i64 k ∧ (∀ j, j < k → kIn (l.getD j default) b = false) ∧ Grw w wr
section
set_option maxHeartbeats 4000000
set_option maxRecDepth 100000
theorem range1_any {h : HintA} {b : Int} {bx : Nat} (w : World) (hx : w.cell? ⟨bx, 0, none⟩ = some (.int .i64 b)) (hbx : bx < w.heap.size) (h0 : 0 ≤ h.fr) (h1 : 0 ≤ h.size) (h2 : h.fr + h.size ≤ 32) :
    Calls Tryz.prog 271 #[.agg (hnC h), .pointer (some ⟨bx, 0, none⟩)] w fun e w' => e = .returned (.bool (kIn h b)) ∧ Grw w w' := by
  obtain ⟨fr, size, often, loop⟩ := h
  unfold kIn hnC
  dsimp only at *
  have HB := Lib.hid (Box.fresh w 141 #[.int .i64 fr, .int .i64 size, .int .i64 often, .bool loop])
  have HO := Lib.hid ((Grw.refl w).alloc (.cells #[.int .i64 fr, .int .i64 size, .int .i64 often, .bool loop] 141))
  have y := HO.out.only.cell hx id
  have ew : IntKind.i64.wrap (fr + size) = fr + size := by rw [IntKind.wrap_i64]; omega
  have HBX := Lib.hid hbx
  clear hx hbx
  generalize hr : (decide (fr ≤ b) && decide (b < fr + size)) = r at *
  have HR := Lib.hid hr
  clear hr
  go_enter Tryz.func271, Tryz.ntmps271
  go_upto_region 1 with fail
  change Code.wp _ _ _ _ (w.alloc (.cells #[.int .i64 fr, .int .i64 size, .int .i64 often, .bool loop] 141))
  generalize w.alloc (.cells #[.int .i64 fr, .int .i64 size, .int .i64 often, .bool loop] 141) = W at *
  generalize w.heap.size = g at *
  have x0 : W.cell? ⟨g, 0, none⟩ = some (.int .i64 fr) := HB.out.cellAt rfl
  have x1 : W.cell? ⟨g, 1, none⟩ = some (.int .i64 size) := HB.out.cellAt rfl
  by_cases c1 : fr ≤ b
  · by_cases c2 : b < fr + size
    · go_wp2
      go_ret
      exact ⟨by rw [show r = true by rw [← HR.out]; simp; omega]; rfl, HO.out⟩
    · go_wp2
      go_ret
      exact ⟨by rw [show r = false by rw [← HR.out]; simp; omega]; rfl, HO.out⟩
  · go_wp2
    go_ret
    exact ⟨by rw [show r = false by rw [← HR.out]; simp; omega]; rfl, HO.out⟩
theorem hindex_any {A : Option Addr} {n c bx : Nat} {l : List HintA} {b blocks : Int} (w : World) (hx : w.cell? ⟨bx, 0, none⟩ = some (.int .i64 b)) (hbx : bx < w.heap.size) (h : HintsAt w A n c l) (hP : hintsP blocks l) :
    Calls Tryz.prog 270 #[.slice A n c, .func (.func 271) #[] #[.pointer (some ⟨bx, 0, none⟩)]] w fun e w' => e = .returned (.int .i64 (rngZ l b)) ∧ Grw w w' := by
  obtain rfl := h.len
  have H := Lib.hid h
  have HP := Lib.hid hP
  have HX := Lib.hid hx
  have HBX := Lib.hid hbx
  have hn := hP.2.2
  have HS := Lib.hid (show KxRel l b w (.int .i64 0) w from ⟨0, Nat.zero_le _, rfl, fun j hj => absurd hj (by omega), Grw.refl w⟩)
  clear h hP hx hbx
  go_enter Tryz.func270, Tryz.ntmps270
  go_upto_region 2 with fail
  go_loopw [8] (fun i wr => KxRel l b w i wr) (fun i _ => l.length - (intOf i).toNat)
  case atStart => exact HS.out
  case round =>
    clear HS
    obtain ⟨k, hk, rfl, hno, hg⟩ := hrel
    have HG := Lib.hid hg
    have HN := Lib.hid hno
    clear hg hno
    by_cases hlt : k < l.length
    · obtain ⟨g, o, rfl, hgl, x0, x1, x2, x3⟩ := (H.out.keep HG.out.only).at_ k hlt
      have hok := HP.out.1 k hlt
      unfold okH at hok
      have HC : Hid (∀ w', Grw wr w' → Calls Tryz.prog 271 #[.agg (hnC (l.getD k default)), .pointer (some ⟨bx, 0, none⟩)] w' fun e w'' => e = .returned (.bool (kIn (l.getD k default) b)) ∧ Grw w' w'') :=
        Lib.hid fun w' hw' => range1_any w' ((HG.out.trans hw').only.cell HX.out id) (Nat.lt_of_lt_of_le HBX.out (HG.out.trans hw').only.size) hok.1 (by omega) (by omega)
      clear hok
      have hlti : (k : Int) < l.length := by omega
      have HLT := Lib.hid hlt
      unfold hnC at HC
      generalize hd : l.getD k default = hh at *
      have HD := Lib.hid hd
      clear hd hlt hk
      cases hki : kIn hh b with
      | true =>
        rw [hki] at HC
        have HZ := Lib.hid (show rngZ l b = k by unfold rngZ; rw [rngI_at HLT.out (by rw [HD.out]; exact hki) HN.out, if_pos HLT.out])
        go_wp2_with (go_at_call 271; refine (HC.out _ (Grw.refl _)).mono ?_; rintro e W1 ⟨rfl, ho1⟩)
        go_ret
        exact ⟨by rw [HZ.out]; rfl, HG.out.trans ho1⟩
      | false =>
        rw [hki] at HC
        have HN2 := Lib.hid (show ∀ j, j < k + 1 → kIn (l.getD j default) b = false from fun j hj => by
          by_cases e : j = k
          · rw [e, HD.out]; exact hki
          · exact HN.out j (by omega))
        go_wp2_with (go_at_call 271; refine (HC.out _ (Grw.refl _)).mono ?_; rintro e W1 ⟨rfl, ho1⟩)
        go_roundw
        case rel => exact ⟨k + 1, HLT.out, by go_num, HN2.out, HG.out.trans ho1⟩
        case measure => simp [intOf]; have := HLT.out; omega
    · obtain rfl : k = l.length := by omega
      clear hlt hk
      have HZ := Lib.hid (show rngZ l b = -1 by unfold rngZ; rw [rngI_end HN.out, if_neg (by omega)])
      go_wp2_with fail
      go_ret
      exact ⟨by rw [HZ.out]; rfl, HG.out⟩
end
structure PlanI where
  pb : Nat
  ob : Nat
  A : Option Addr
  c : Nat
def planC (i : PlanI) (blocks : Int) (q : Nat → Int) (n : Nat) : Array Value := #[.int .i64 blocks, .int .i64 (q 0), .int .i64 (q 1), .int .i64 (q 2), .slice i.A n i.c, .slice (some ⟨i.ob, 0, none⟩) n n]
def ptC (n : Nat) (O : Nat → Nat → Int) : Array Value := Array.ofFn (n := n * 4) fun i => .int .i64 (O (i.1 / 4) (i.1 % 4))
theorem ptC_at (n : Nat) (O : Nat → Nat → Int) {r t : Nat} (hr : r < n) (ht : t < 4) : (ptC n O)[r * 4 + t]? = some (.int .i64 (O r t)) := by
  unfold ptC
  rw [Array.getElem?_ofFn, dif_pos (by omega)]
  simp only [show (r * 4 + t) / 4 = r by omega, show (r * 4 + t) % 4 = t by omega]
structure PlanB (w : World) (i : PlanI) (blocks : Int) (q : Nat → Int) (l : List HintA) (O : Nat → Nat → Int) : Prop where
  box : Box w i.pb 312 (planC i blocks q l.length)
  hin : HintsAt w i.A l.length i.c l
  prt : Box w i.ob 328 (ptC l.length O)
  hP : hintsP blocks l
  ht : 0 < l.length → ∀ k o, i.A = some ⟨k, o, none⟩ → ∃ cs, Box w k 141 cs
def PlanI.F (i : PlanI) : Nat → Prop := fun k => k = i.pb ∨ k = i.ob ∨ ∃ o, i.A = some ⟨k, o, none⟩
section
variable {w w' : World} {i : PlanI} {blocks : Int} {q : Nat → Int} {l : List HintA} {O : Nat → Nat → Int}
theorem PlanB.far {S : Nat → Prop} (h : PlanB w i blocks q l O) (ho : Only S w w') (hS : ∀ k, i.F k → ¬ S k) : PlanB w' i blocks q l O :=
  ⟨ho.box h.box (hS _ (.inl rfl)), ⟨h.hin.len, h.hin.cap, h.hin.max, fun j hj => by
    obtain ⟨g, o, e, hg, h0, h1, h2, h3⟩ := h.hin.at_ j hj
    have hn := hS g (.inr (.inr ⟨o, e⟩))
    exact ⟨g, o, e, Nat.lt_of_lt_of_le hg ho.size, ho.cell h0 hn, ho.cell h1 hn, ho.cell h2 hn, ho.cell h3 hn⟩⟩, ho.box h.prt (hS _ (.inr (.inl rfl))), h.hP, fun h0 k o e => by obtain ⟨cs, hb⟩ := h.ht h0 k o e; exact ⟨cs, ho.box hb (hS k (.inr (.inr ⟨o, e⟩)))⟩⟩
theorem PlanB.keep (h : PlanB w i blocks q l O) (ho : Only Non w w') : PlanB w' i blocks q l O := h.far ho fun _ _ => id
def rngV (l : List HintA) (b : Int) : Value := .tuple #[.int .i64 (if rngI l b < l.length then (rngI l b : Int) else 0), .bool (decide (rngI l b < l.length))]
def partV (l : List HintA) (O : Nat → Nat → Int) (b : Int) (t : Nat) : Int := if rngI l b < l.length then O (rngI l b) t else 0
def loopV (l : List HintA) (b : Int) : Bool := decide (rngI l b < l.length) && (l.getD (rngI l b) default).loop
end
section
set_option maxHeartbeats 4000000
set_option maxRecDepth 100000
variable {i : PlanI} {blocks : Int} {q : Nat → Int} {l : List HintA} {O : Nat → Nat → Int}
theorem range_any (b : Int) (w : World) (h : PlanB w i blocks q l O) : Calls Tryz.prog 224 #[.pointer (some ⟨i.pb, 0, none⟩), .int .i64 b] w fun e w' => e = .returned (rngV l b) ∧ Grw w w' := by
  have HO := Lib.hid ((Grw.refl w).alloc (.cells #[.int .i64 b] 3))
  have HH := Lib.hid (h.keep HO.out.only)
  have HX := Lib.hid ((Box.fresh w 3 #[.int .i64 b]).cellAt (i := 0) rfl)
  have HS := Lib.hid (Box.fresh w 3 #[.int .i64 b]).lt
  clear h
  have hz : rngZ l b = -1 ∨ ∃ k : Nat, rngZ l b = k := by unfold rngZ; split; exact .inr ⟨_, rfl⟩; exact .inl rfl
  have HV : Hid (rngV l b = .tuple #[.int .i64 (if rngZ l b < 0 then 0 else rngZ l b), .bool (decide (0 ≤ rngZ l b))]) := Lib.hid (by
    unfold rngV rngZ
    by_cases h : rngI l b < l.length
    · rw [if_pos h, if_pos h, if_neg (by omega), decide_eq_true h, decide_eq_true (by omega)]
    · rw [if_neg h, if_neg h, if_pos (by omega), decide_eq_false h, decide_eq_false (by omega)])
  rw [HV.out]
  have HI := Lib.hid (hindex_any _ HX.out HS.out HH.out.hin HH.out.hP)
  generalize rngZ l b = z at *
  clear HV
  go_enter Tryz.func224, Tryz.ntmps224
  go_upto_region 1 with fail
  change Code.wp _ _ _ _ (w.alloc (.cells #[.int .i64 b] 3))
  generalize w.alloc (.cells #[.int .i64 b] 3) = W at *
  generalize w.heap.size = g at *
  have x4 : W.cell? ⟨i.pb, 4, none⟩ = some (.slice i.A l.length i.c) := HH.out.box.cellAt rfl
  by_cases hz0 : 0 ≤ z
  · have hz1 : ¬ z < 0 := by omega
    go_wp2_with (go_at_call 270; refine HI.out.mono ?_; rintro e W1 ⟨rfl, ho1⟩)
    go_ret2
    exact ⟨by simp [hz0, hz1]; omega, HO.out.trans ho1⟩
  · have hz1 : z < 0 := by omega
    go_wp2_with (go_at_call 270; refine HI.out.mono ?_; rintro e W1 ⟨rfl, ho1⟩)
    go_ret2
    exact ⟨by simp [hz0, hz1]; omega, HO.out.trans ho1⟩
theorem part_any (b : Int) {t : Nat} (ht : t < 3) (w : World) (h : PlanB w i blocks q l O) : Calls Tryz.prog 163 #[.pointer (some ⟨i.pb, 0, none⟩), .int .i64 b, .int .i64 ((t + 1 : Nat) : Int)] w fun e w' => e = .returned (.int .i64 (partV l O b t)) ∧ Grw w w' := by
  have HR := Lib.hid (range_any b w h)
  have HH := Lib.hid h
  have h8 := h.hP.2.2
  clear h
  have ew : IntKind.i64.wrap (((t + 1 : Nat) : Int) - 1) = t := by rw [IntKind.wrap_i64]; omega
  have ht1 : ¬ ((t + 1 : Nat) : Int) < 1 := by omega
  have ht2 : ¬ (3 : Int) < ((t + 1 : Nat) : Int) := by omega
  have ht3 : (t : Int) < 4 := by omega
  unfold rngV at HR
  unfold partV
  by_cases hk : rngI l b < l.length
  · rw [if_pos hk, decide_eq_true hk] at HR
    rw [if_pos hk]
    have HX := Lib.hid (fun (W : World) (ho : Only Non w W) => (HH.out.keep ho).prt.cellAt (ptC_at l.length O hk (show t < 4 by omega)))
    have HP := Lib.hid (fun (W : World) (ho : Only Non w W) => (HH.out.keep ho).box.cellAt (i := 5) (v := .slice (some ⟨i.ob, 0, none⟩) l.length l.length) rfl)
    generalize O (rngI l b) t = x at *
    generalize rngI l b = k at *
    have hki : (k : Int) < l.length := by omega
    generalize ((t + 1 : Nat) : Int) = t1 at *
    go_enter Tryz.func163, Tryz.ntmps163
    go_upto_region 2 with (go_at_call 224; refine HR.out.mono ?_; rintro e W1 ⟨rfl, ho1⟩)
    have x5 := HP.out _ ho1.only
    have x6 := HX.out _ ho1.only
    go_wp2
    go_ret
    exact ⟨rfl, ho1⟩
  · rw [if_neg hk, decide_eq_false hk] at HR
    rw [if_neg hk]
    generalize ((t + 1 : Nat) : Int) = t1 at *
    go_enter Tryz.func163, Tryz.ntmps163
    go_wp2_with (go_at_call 224; refine HR.out.mono ?_; rintro e W1 ⟨rfl, ho1⟩)
    go_ret
    exact ⟨rfl, ho1⟩
theorem loop_any (b : Int) (w : World) (h : PlanB w i blocks q l O) : Calls Tryz.prog 345 #[.pointer (some ⟨i.pb, 0, none⟩), .int .i64 b] w fun e w' => e = .returned (.bool (loopV l b)) ∧ Grw w w' := by
  have HR := Lib.hid (range_any b w h)
  have HH := Lib.hid h
  have h8 := h.hP.2.2
  clear h
  unfold rngV at HR
  unfold loopV
  by_cases hk : rngI l b < l.length
  · rw [if_pos hk, decide_eq_true hk] at HR
    rw [decide_eq_true hk, Bool.true_and]
    have HX := Lib.hid (fun (W : World) (ho : Only Non w W) => (HH.out.keep ho).hin.at_ _ hk)
    have HP := Lib.hid (fun (W : World) (ho : Only Non w W) => (HH.out.keep ho).box.cellAt (i := 4) (v := .slice i.A l.length i.c) rfl)
    generalize rngI l b = k at *
    have hki : (k : Int) < l.length := by omega
    generalize (l.getD k default).loop = x at *
    go_enter Tryz.func345, Tryz.ntmps345
    go_upto_region 2 with (go_at_call 224; refine HR.out.mono ?_; rintro e W1 ⟨rfl, ho1⟩)
    have x5 := HP.out _ ho1.only
    obtain ⟨g, o, eA, hg, y0, y1, y2, y3⟩ := HX.out _ ho1.only
    rw [eA] at x5
    go_wp2
    go_ret
    exact ⟨rfl, ho1⟩
  · rw [if_neg hk, decide_eq_false hk] at HR
    rw [decide_eq_false hk, Bool.false_and]
    go_enter Tryz.func345, Tryz.ntmps345
    go_wp2_with (go_at_call 224; refine HR.out.mono ?_; rintro e W1 ⟨rfl, ho1⟩)
    go_ret
    exact ⟨rfl, ho1⟩
end
end Go.Proofs.YtodephhlhdbeoaaGreat
namespace Go.Proofs.YtodephhlhdbeoaaGreat
set_option linter.unusedVariables false
structure AlS where
  c : Nat → Int
  o : Nat → Nat → Int
  left : Int
def alTier (i : Nat) (s : AlS) (t : Nat) : AlS :=
  let n := min s.left (s.c t)
  ⟨fun x => if x = t then s.c t - n else s.c x, fun r x => if r = i ∧ x = t then n else s.o r x, s.left - n⟩
def alRange (l : List HintA) (s : AlS) (i : Nat) : AlS :=
  let s3 := (List.range 3).foldl (alTier i) { s with left := (l.getD i default).size }
  { s3 with o := fun r x => if r = i ∧ x = 3 then s3.left else s3.o r x }
def alcOf (l : List HintA) (q : Nat → Int) (ord : List Nat) : AlS := ord.foldl (alRange l) ⟨q, fun _ _ => 0, 0⟩
def hintFr (l : List HintA) : List (Int × Int) := l.map fun h => (h.often, h.size)
def alcO (l : List HintA) (q : Nat → Int) : Nat → Nat → Int := (alcOf l q (frcOrd (hintFr l))).o
theorem ptC_set (n : Nat) (O : Nat → Nat → Int) {r t : Nat} (hr : r < n) (ht : t < 4) (v : Int) : (ptC n O).setIfInBounds (r * 4 + t) (.int .i64 v) = ptC n (fun a b => if a = r ∧ b = t then v else O a b) := by
  apply Array.ext_getElem?
  intro k
  unfold ptC
  rw [Array.getElem?_setIfInBounds]
  by_cases e : r * 4 + t = k
  · subst e
    rw [if_pos rfl, if_pos (by simp; omega), Array.getElem?_ofFn, dif_pos (by omega)]
    simp only [show (r * 4 + t) / 4 = r by omega, show (r * 4 + t) % 4 = t by omega, and_self, if_true]
  · rw [if_neg e]
    by_cases hk : k < n * 4
    · rw [Array.getElem?_ofFn, Array.getElem?_ofFn, dif_pos hk, dif_pos hk]
      dsimp only
      rw [if_neg (by omega)]
    · rw [Array.getElem?_ofFn, Array.getElem?_ofFn, dif_neg hk, dif_neg hk]
end Go.Proofs.YtodephhlhdbeoaaGreat
namespace Go.Proofs.YtodephhlhdbeoaaGreat
open Go.RowKit Go.ChangeShapes Go.WideShapes
set_option linter.unusedVariables false
set_option linter.unusedSimpArgs false
structure PrtI where
  p : Nat
  g : Nat
  eb : Nat
  i : PlanI
  t : Nat
def prtC (j : PrtI) : Array Value := #[.pointer (some ⟨j.g, 0, none⟩), .pointer (some ⟨j.i.pb, 0, none⟩), .int .i64 ((j.t + 1 : Nat) : Int)]
structure PrtB (w : World) (j : PrtI) (blocks : Int) (q : Nat → Int) (l : List HintA) (O : Nat → Nat → Int) (S : Nat → List Int) : Prop where
  box : Box w j.p 260 (prtC j)
  sp : SpB w j.g j.eb (l.length + 1) S
  pl : PlanB w j.i blocks q l O
  t3 : j.t < 3
section
variable {w w' : World} {j : PrtI} {blocks : Int} {q : Nat → Int} {l : List HintA} {O : Nat → Nat → Int} {S : Nat → List Int}
theorem PrtB.keep (h : PrtB w j blocks q l O S) (ho : Only Non w w') : PrtB w' j blocks q l O S := ⟨ho.box h.box id, h.sp.keep ho, h.pl.keep ho, h.t3⟩
theorem PrtB.c0 (h : PrtB w j blocks q l O S) : w.cell? ⟨j.p, 0, none⟩ = some (.pointer (some ⟨j.g, 0, none⟩)) := h.box.cellAt rfl
theorem PrtB.c1 (h : PrtB w j blocks q l O S) : w.cell? ⟨j.p, 1, none⟩ = some (.pointer (some ⟨j.i.pb, 0, none⟩)) := h.box.cellAt rfl
theorem PrtB.c2 (h : PrtB w j blocks q l O S) : w.cell? ⟨j.p, 2, none⟩ = some (.int .i64 ((j.t + 1 : Nat) : Int)) := h.box.cellAt rfl
end
section
set_option maxHeartbeats 4000000
set_option maxRecDepth 100000
variable {j : PrtI} {blocks : Int} {q : Nat → Int} {l : List HintA} {O : Nat → Nat → Int} {S : Nat → List Int}
theorem prt_takes (b : Int) (w : World) (h : PrtB w j blocks q l O S) : Calls Tryz.prog 101 #[.pointer (some ⟨j.p, 0, none⟩), .int .i64 b] w fun e w' => e = .returned (.bool (decide (0 < partV l O b j.t))) ∧ Grw w w' := by
  have HP : Hid (∀ n os, Calls Tryz.prog 163 #[.pointer (some ⟨j.i.pb, 0, none⟩), .int .i64 b, .int .i64 ((j.t + 1 : Nat) : Int)] (Sort.grow (w.drewN n) os) fun e w' => e = .returned (.int .i64 (partV l O b j.t)) ∧ ∃ q os', w' = Sort.grow ((Sort.grow (w.drewN n) os).drewN q) os') :=
    Lib.hid fun n os => part_any b h.t3 _ (h.pl.keep (show Grw w (Sort.grow (w.drewN n) os) from ⟨n, os, rfl⟩).only)
  have hlt := h.box.lt
  have x1 := fun n os => cell_grown (w := w) (a := ⟨j.p, 1, none⟩) hlt h.c1 n os
  have x2 := fun n os => cell_grown (w := w) (a := ⟨j.p, 2, none⟩) hlt h.c2 n os
  clear h
  generalize partV l O b j.t = x at *
  generalize ((j.t + 1 : Nat) : Int) = t1 at *
  have mixed : Tryz.prog.follows .mixedOrders = true := by kernel_rfl
  go_enter Tryz.func101, Tryz.ntmps101
  go_upto_region 1 with fail
  go_quiet_grown (first | (go_at_call 163; refine Calls.grown_of (HP.out _ _)))
  go_wp2
  go_ret
  exact ⟨rfl, _, _, rfl⟩
theorem prt_has_in {b : Int} {r : Nat} (w : World) (h : PrtB w j blocks q l O S) (hb : b ∈ S r) : Calls Tryz.prog 339 #[.pointer (some ⟨j.p, 0, none⟩), .int .i64 b] w fun e w' => e = .returned (.bool true) ∧ w = w' := by
  have HP := Lib.hid (of_in w h.sp hb)
  have x0 := h.c0
  clear h
  go_enter Tryz.func339, Tryz.ntmps339
  go_wp2_with (go_at_call 295; refine HP.out.mono ?_; rintro e W1 ⟨rfl, rfl⟩)
  go_ret
  exact ⟨rfl, rfl⟩
theorem prt_has_no {b : Int} (w : World) (h : PrtB w j blocks q l O S) (hb : ∀ r, b ∉ S r) : Calls Tryz.prog 339 #[.pointer (some ⟨j.p, 0, none⟩), .int .i64 b] w fun e w' => e = .returned (.bool false) ∧ w = w' := by
  have HP := Lib.hid (of_no w h.sp hb)
  have x0 := h.c0
  clear h
  go_enter Tryz.func339, Tryz.ntmps339
  go_wp2_with (go_at_call 295; refine HP.out.mono ?_; rintro e W1 ⟨rfl, rfl⟩)
  go_ret
  exact ⟨rfl, rfl⟩
end
def PrtI.F (j : PrtI) : Nat → Prop := fun k => k = j.p ∨ k = j.g ∨ k = j.eb ∨ j.i.F k
section
set_option maxHeartbeats 4000000
set_option maxRecDepth 100000
variable {j : PrtI} {blocks : Int} {q : Nat → Int} {l : List HintA} {O : Nat → Nat → Int} {S : Nat → List Int}
theorem prt_use_no {b : Int} (w : World) (h : PrtB w j blocks q l O S) (hb : ∀ r, b ∉ S r) : Calls Tryz.prog 342 #[.pointer (some ⟨j.p, 0, none⟩), .int .i64 b] w fun e w' => e = .returned (.bool false) ∧ w = w' := by
  have HP := Lib.hid (prt_has_no w h hb)
  clear h
  go_enter Tryz.func342, Tryz.ntmps342
  go_wp2_with (go_at_call 339; refine HP.out.mono ?_; rintro e W1 ⟨rfl, rfl⟩)
  go_ret
  exact ⟨rfl, rfl⟩
theorem prt_use_in {n r : Nat} (w : World) (h : PrtB w j blocks q l O S) (hr : r < l.length + 1) (hn : n < 64) (hb : (n : Int) ∈ S r) :
    Calls Tryz.prog 342 #[.pointer (some ⟨j.p, 0, none⟩), .int .i64 n] w fun e w' => e = .returned (.bool true) ∧ SpB w' j.g j.eb (l.length + 1) (frontS (remS S n) r n) ∧ Only (Two j.g j.eb) w w' := by
  have HH := Lib.hid (prt_has_in w h hb)
  have HO := Lib.hid (of_in w h.sp hb)
  have HF := Lib.hid (front_ok w h.sp hr hn)
  have x0 := h.c0
  clear h
  go_enter Tryz.func342, Tryz.ntmps342
  go_wp2_with (first | (go_at_call 339; refine HH.out.mono ?_; rintro e W1 ⟨rfl, rfl⟩) | (go_at_call 295; refine HO.out.mono ?_; rintro e W2 ⟨rfl, rfl⟩) | (go_at_call 226; refine HF.out.mono ?_; rintro e W3 ⟨rfl, h1, h2⟩))
  go_ret
  exact ⟨rfl, h1, h2⟩
theorem prt_rem_in {n r : Nat} (w : World) (h : PrtB w j blocks q l O S) (hb : (n : Int) ∈ S r) :
    Calls Tryz.prog 341 #[.pointer (some ⟨j.p, 0, none⟩), .int .i64 n] w fun e w' => e = .returned (.bool true) ∧ SpB w' j.g j.eb (l.length + 1) (remS S n) ∧ Only (Two j.g j.eb) w w' := by
  have HH := Lib.hid (prt_has_in w h hb)
  have HR := Lib.hid (remove_in w h.sp hb)
  have x0 := h.c0
  clear h
  go_enter Tryz.func341, Tryz.ntmps341
  go_wp2_with (first | (go_at_call 339; refine HH.out.mono ?_; rintro e W1 ⟨rfl, rfl⟩) | (go_at_call 276; refine HR.out.mono ?_; rintro e W3 ⟨rfl, h1, h2⟩))
  go_ret
  exact ⟨rfl, h1, h2⟩
def prtGoes (l : List HintA) (S : Nat → List Int) (r : Nat) (b : Int) : Int := if loopV l b then Go.Proofs.YtodephhlhdbeoaaGreat.hd (S r) else lst (S r)
theorem prt_goes {r : Nat} {b : Int} (w : World) (h : PrtB w j blocks q l O S) (hr : r < l.length + 1) (hne : S r ≠ []) :
    Calls Tryz.prog 344 #[.pointer (some ⟨j.p, 0, none⟩), .int .i64 r, .int .i64 b] w fun e w' => e = .returned (.int .i64 (prtGoes l S r b)) ∧ Grw w w' := by
  have HL := last_any r w h.sp hr
  rw [if_neg hne] at HL
  have HL := Lib.hid HL
  have HF : Hid (∀ w', Grw w w' → Calls Tryz.prog 346 #[.pointer (some ⟨j.g, 0, none⟩), .int .i64 r] w' _) := Lib.hid fun w' hw => first_any r w' (h.sp.keep hw.only) hr
  rw [if_neg hne] at HF
  have HP := Lib.hid (loop_any b w h.pl)
  have x0 := h.c0
  have x1 := h.c1
  have HX := Lib.hid (fun w' (hw : Grw w w') => hw.only.cell x0 id)
  clear h
  unfold prtGoes
  generalize Go.Proofs.YtodephhlhdbeoaaGreat.hd (S r) = f at *
  generalize lst (S r) = z at *
  cases hlv : loopV l b with
  | true =>
    rw [hlv] at HP
    rw [if_pos rfl]
    clear hlv
    go_enter Tryz.func344, Tryz.ntmps344
    go_upto_region 2 with (go_at_call 275; refine HL.out.mono ?_; rintro e W1 ⟨rfl, rfl⟩)
    go_upto_region 3 with (go_at_call 345; refine HP.out.mono ?_; rintro e W2 ⟨rfl, ho2⟩)
    have x2 := HX.out _ ho2
    go_wp2_with (go_at_call 346; refine (HF.out _ ho2).mono ?_; rintro e W3 ⟨rfl, rfl⟩)
    go_ret
    exact ⟨rfl, ho2⟩
  | false =>
    rw [hlv] at HP
    rw [if_neg (by decide)]
    clear hlv
    go_enter Tryz.func344, Tryz.ntmps344
    go_upto_region 2 with (go_at_call 275; refine HL.out.mono ?_; rintro e W1 ⟨rfl, rfl⟩)
    go_wp2_with (go_at_call 345; refine HP.out.mono ?_; rintro e W2 ⟨rfl, ho2⟩)
    go_ret
    exact ⟨rfl, ho2⟩
end
section
set_option maxHeartbeats 4000000
set_option maxRecDepth 100000
variable {j : PrtI} {blocks : Int} {q : Nat → Int} {l : List HintA} {O : Nat → Nat → Int} {S : Nat → List Int}
theorem prt_add_in {n r : Nat} (w : World) (h : PrtB w j blocks q l O S) (hr : r < l.length + 1) (hn : n < 64) (hb : (n : Int) ∈ S r) (ht : 0 < partV l O n j.t) :
    Calls Tryz.prog 337 #[.pointer (some ⟨j.p, 0, none⟩), .int .i64 n] w fun e w' => e = .returned (.tuple #[.int .i64 0, .bool false, .int .i64 0]) ∧ SpB w' j.g j.eb (l.length + 1) (frontS (remS S n) r n) ∧ Only (Two j.g j.eb) w w' := by
  have HT := prt_takes n w h
  rw [decide_eq_true ht] at HT
  have HT := Lib.hid HT
  have HU : Hid (∀ w', Grw w w' → Calls Tryz.prog 342 #[.pointer (some ⟨j.p, 0, none⟩), .int .i64 n] w' fun e w'' => e = .returned (.bool true) ∧ SpB w'' j.g j.eb (l.length + 1) (frontS (remS S n) r n) ∧ Only (Two j.g j.eb) w' w'') :=
    Lib.hid fun w' hw => prt_use_in w' (h.keep hw.only) hr hn hb
  clear h ht
  go_enter Tryz.func337, Tryz.ntmps337
  go_wp2_with (first | (go_at_call 101; refine HT.out.mono ?_; rintro e W1 ⟨rfl, ho1⟩) | (go_at_call 342; refine (HU.out _ ho1).mono ?_; rintro e W2 ⟨rfl, h1, h2⟩))
  go_ret3
  exact ⟨rfl, h1, (ho1.only.mono fun _ hk => hk.elim).trans h2⟩
theorem partV_in {b : Int} {t : Nat} (h : 0 < partV l O b t) : rngI l b < l.length := by
  unfold partV at h
  by_cases hk : rngI l b < l.length
  · exact hk
  · rw [if_neg hk] at h; omega
theorem prt_add_room {n : Nat} (w : World) (h : PrtB w j blocks q l O S) (hn : n < 64) (hb : ∀ r, (n : Int) ∉ S r) (ht : 0 < partV l O n j.t) (hroom : ((S (rngI l n)).length : Int) < partV l O n j.t) :
    Calls Tryz.prog 337 #[.pointer (some ⟨j.p, 0, none⟩), .int .i64 n] w fun e w' => e = .returned (.tuple #[.int .i64 0, .bool false, .int .i64 0]) ∧ SpB w' j.g j.eb (l.length + 1) (frontS (remS S n) (rngI l n) n) ∧ Only (Two j.g j.eb) w w' := by
  have HT := prt_takes n w h
  rw [decide_eq_true ht] at HT
  have HT := Lib.hid HT
  have hr := partV_in ht
  have HU : Hid (∀ w', Grw w w' → Calls Tryz.prog 342 #[.pointer (some ⟨j.p, 0, none⟩), .int .i64 n] w' fun e w'' => e = .returned (.bool false) ∧ w' = w'') :=
    Lib.hid fun w' hw => prt_use_no w' (h.keep hw.only) hb
  have HR : Hid (∀ w', Grw w w' → Calls Tryz.prog 224 #[.pointer (some ⟨j.i.pb, 0, none⟩), .int .i64 n] w' fun e w'' => e = .returned (.tuple #[.int .i64 (rngI l n : Nat), .bool true]) ∧ Grw w' w'') :=
    Lib.hid fun w' hw => by
      have := range_any n w' (h.pl.keep hw.only)
      unfold rngV at this
      rw [if_pos hr, decide_eq_true hr] at this
      exact this
  have HL : Hid (∀ w', Grw w w' → ∀ k os, Calls Tryz.prog 343 #[.pointer (some ⟨j.g, 0, none⟩), .int .i64 (rngI l n : Nat)] (Sort.grow (w'.drewN k) os) fun e w'' => e = .returned (.int .i64 (S (rngI l n)).length) ∧ ∃ q os', w'' = Sort.grow ((Sort.grow (w'.drewN k) os).drewN q) os') :=
    Lib.hid fun w' hw k os => (len_any _ _ (h.sp.keep (hw.trans ⟨k, os, rfl⟩ : Grw w _).only) (by omega)).mono fun e w'' ⟨h1, h2⟩ => ⟨h1, h2 ▸ Grw.refl _⟩
  have HP : Hid (∀ w', Grw w w' → ∀ k os, Calls Tryz.prog 163 #[.pointer (some ⟨j.i.pb, 0, none⟩), .int .i64 n, .int .i64 ((j.t + 1 : Nat) : Int)] (Sort.grow (w'.drewN k) os) fun e w'' => e = .returned (.int .i64 (partV l O n j.t)) ∧ ∃ q os', w'' = Sort.grow ((Sort.grow (w'.drewN k) os).drewN q) os') :=
    Lib.hid fun w' hw k os => part_any n h.t3 _ (h.pl.keep (hw.trans ⟨k, os, rfl⟩ : Grw w _).only)
  have HF : Hid (∀ w', Grw w w' → Calls Tryz.prog 226 #[.pointer (some ⟨j.g, 0, none⟩), .int .i64 (rngI l n : Nat), .int .i64 n] w' fun e w'' => e = .returned (.int .i64 0) ∧ SpB w'' j.g j.eb (l.length + 1) (frontS (remS S n) (rngI l n) n) ∧ Only (Two j.g j.eb) w' w'') :=
    Lib.hid fun w' hw => front_ok w' (h.sp.keep hw.only) (by omega) hn
  have hlt := Lib.hid h.box.lt
  have HC := Lib.hid (fun w' (hw : Grw w w') => h.keep hw.only)
  have x1 := h.c1
  clear h ht
  generalize frontS (remS S n) (rngI l n) n = S' at *
  generalize partV l O n j.t = P at *
  generalize (S (rngI l n)).length = L at *
  generalize rngI l n = r at *
  have mixed : Tryz.prog.follows .mixedOrders = true := by kernel_rfl
  go_enter Tryz.func337, Tryz.ntmps337
  go_upto_region 7 with (first | (go_at_call 101; refine HT.out.mono ?_; rintro e W1 ⟨rfl, ho1⟩) | (go_at_call 342; refine (HU.out _ ho1).mono ?_; rintro e W2 ⟨rfl, rfl⟩))
  have x1' := (HC.out _ ho1).c1
  go_upto_region 8 with (go_at_call 224; refine (HR.out _ ho1).mono ?_; rintro e W3 ⟨rfl, ho3⟩)
  have HO3 := Lib.hid (ho1.trans ho3)
  have hl3 : j.p < W3.heap.size := (HC.out _ HO3.out).box.lt
  have y0 := fun k os => cell_grown (w := W3) (a := ⟨j.p, 0, none⟩) hl3 (HC.out _ HO3.out).c0 k os
  have y1 := fun k os => cell_grown (w := W3) (a := ⟨j.p, 1, none⟩) hl3 (HC.out _ HO3.out).c1 k os
  have y2 := fun k os => cell_grown (w := W3) (a := ⟨j.p, 2, none⟩) hl3 (HC.out _ HO3.out).c2 k os
  generalize ((j.t + 1 : Nat) : Int) = t1 at *
  clear x1 x1' ho1 ho3 hl3
  go_quiet_grown (first | (go_at_call 163; refine Calls.grown_of (HP.out _ HO3.out _ _)) | (go_at_call 343; refine Calls.grown_of (HL.out _ HO3.out _ _)))
  have HO4 := Lib.hid (HO3.out.trans (show Grw W3 (Sort.grow (W3.drewN nq) osq) from ⟨nq, osq, rfl⟩))
  have z0 := y0 nq osq
  go_wp2_with (go_at_call 226; refine (HF.out _ HO4.out).mono ?_; rintro e W5 ⟨rfl, h1, h2⟩)
  go_ret3
  exact ⟨rfl, h1, (HO4.out.only.mono fun _ hk => hk.elim).trans h2⟩
theorem prt_add_full {n m : Nat} (w : World) (h : PrtB w j blocks q l O S) (hn : n < 64) (hb : ∀ r, (n : Int) ∉ S r) (ht : 0 < partV l O n j.t) (hfull : partV l O n j.t ≤ ((S (rngI l n)).length : Int)) (hm : prtGoes l S (rngI l n) n = m) (hmS : (m : Int) ∈ S (rngI l n)) :
    Calls Tryz.prog 337 #[.pointer (some ⟨j.p, 0, none⟩), .int .i64 n] w fun e w' => e = .returned (.tuple #[.int .i64 m, .bool true, .int .i64 0]) ∧ SpB w' j.g j.eb (l.length + 1) (frontS (remS (remS S m) n) (rngI l n) n) ∧ Only (Two j.g j.eb) w w' := by
  have HT := prt_takes n w h
  rw [decide_eq_true ht] at HT
  have HT := Lib.hid HT
  have hr := partV_in ht
  have HU : Hid (∀ w', Grw w w' → Calls Tryz.prog 342 #[.pointer (some ⟨j.p, 0, none⟩), .int .i64 n] w' fun e w'' => e = .returned (.bool false) ∧ w' = w'') :=
    Lib.hid fun w' hw => prt_use_no w' (h.keep hw.only) hb
  have HR : Hid (∀ w', Grw w w' → Calls Tryz.prog 224 #[.pointer (some ⟨j.i.pb, 0, none⟩), .int .i64 n] w' fun e w'' => e = .returned (.tuple #[.int .i64 (rngI l n : Nat), .bool true]) ∧ Grw w' w'') :=
    Lib.hid fun w' hw => by
      have := range_any n w' (h.pl.keep hw.only)
      unfold rngV at this
      rw [if_pos hr, decide_eq_true hr] at this
      exact this
  have HL : Hid (∀ w', Grw w w' → ∀ k os, Calls Tryz.prog 343 #[.pointer (some ⟨j.g, 0, none⟩), .int .i64 (rngI l n : Nat)] (Sort.grow (w'.drewN k) os) fun e w'' => e = .returned (.int .i64 (S (rngI l n)).length) ∧ ∃ q os', w'' = Sort.grow ((Sort.grow (w'.drewN k) os).drewN q) os') :=
    Lib.hid fun w' hw k os => (len_any _ _ (h.sp.keep (hw.trans ⟨k, os, rfl⟩ : Grw w _).only) (by omega)).mono fun e w'' ⟨h1, h2⟩ => ⟨h1, h2 ▸ Grw.refl _⟩
  have HP : Hid (∀ w', Grw w w' → ∀ k os, Calls Tryz.prog 163 #[.pointer (some ⟨j.i.pb, 0, none⟩), .int .i64 n, .int .i64 ((j.t + 1 : Nat) : Int)] (Sort.grow (w'.drewN k) os) fun e w'' => e = .returned (.int .i64 (partV l O n j.t)) ∧ ∃ q os', w'' = Sort.grow ((Sort.grow (w'.drewN k) os).drewN q) os') :=
    Lib.hid fun w' hw k os => part_any n h.t3 _ (h.pl.keep (hw.trans ⟨k, os, rfl⟩ : Grw w _).only)
  have HG : Hid (∀ w', Grw w w' → Calls Tryz.prog 344 #[.pointer (some ⟨j.p, 0, none⟩), .int .i64 (rngI l n : Nat), .int .i64 n] w' fun e w'' => e = .returned (.int .i64 m) ∧ Grw w' w'') :=
    Lib.hid fun w' hw => by
      have := prt_goes (r := rngI l n) (b := n) w' (h.keep hw.only) (by omega) (List.ne_nil_of_mem hmS)
      rw [hm] at this
      exact this
  have HM : Hid (∀ w', Grw w w' → Calls Tryz.prog 276 #[.pointer (some ⟨j.g, 0, none⟩), .int .i64 m] w' fun e w'' => e = .returned (.int .i64 0) ∧ SpB w'' j.g j.eb (l.length + 1) (remS S m) ∧ Only (Two j.g j.eb) w' w'') :=
    Lib.hid fun w' hw => remove_in w' (h.sp.keep hw.only) hmS
  have HF : Hid (∀ w', SpB w' j.g j.eb (l.length + 1) (remS S m) → Calls Tryz.prog 226 #[.pointer (some ⟨j.g, 0, none⟩), .int .i64 (rngI l n : Nat), .int .i64 n] w' fun e w'' => e = .returned (.int .i64 0) ∧ SpB w'' j.g j.eb (l.length + 1) (frontS (remS (remS S m) n) (rngI l n) n) ∧ Only (Two j.g j.eb) w' w'') :=
    Lib.hid fun w' hw => front_ok w' hw (by omega) hn
  have HZ : Hid (∀ w' w'', Grw w w' → Only (Two j.g j.eb) w' w'' → w''.cell? ⟨j.p, 0, none⟩ = some (.pointer (some ⟨j.g, 0, none⟩))) := Lib.hid fun w' w'' hw ho => by
    have h2 := h.keep hw.only
    have hd1 : j.p ≠ j.g := by
      obtain ⟨N, E, hm, _⟩ := h2.sp
      exact h2.box.off hm.1 (by decide)
    have hd2 : j.p ≠ j.eb := by
      obtain ⟨N, E, hm, _⟩ := h2.sp
      exact h2.box.off hm.2 (by decide)
    exact ho.cell h2.c0 (by rintro (e | e) <;> contradiction)
  have hlt := Lib.hid h.box.lt
  have HC := Lib.hid (fun w' (hw : Grw w w') => h.keep hw.only)
  have x1 := h.c1
  clear h ht hm hmS
  generalize frontS (remS (remS S m) n) (rngI l n) n = S' at *
  generalize remS S m = S1 at *
  generalize partV l O n j.t = P at *
  generalize (S (rngI l n)).length = L at *
  generalize rngI l n = r at *
  have mixed : Tryz.prog.follows .mixedOrders = true := by kernel_rfl
  go_enter Tryz.func337, Tryz.ntmps337
  go_upto_region 7 with (first | (go_at_call 101; refine HT.out.mono ?_; rintro e W1 ⟨rfl, ho1⟩) | (go_at_call 342; refine (HU.out _ ho1).mono ?_; rintro e W2 ⟨rfl, rfl⟩))
  have x1' := (HC.out _ ho1).c1
  go_upto_region 8 with (go_at_call 224; refine (HR.out _ ho1).mono ?_; rintro e W3 ⟨rfl, ho3⟩)
  have HO3 := Lib.hid (ho1.trans ho3)
  have hl3 : j.p < W3.heap.size := (HC.out _ HO3.out).box.lt
  have y0 := fun k os => cell_grown (w := W3) (a := ⟨j.p, 0, none⟩) hl3 (HC.out _ HO3.out).c0 k os
  have y1 := fun k os => cell_grown (w := W3) (a := ⟨j.p, 1, none⟩) hl3 (HC.out _ HO3.out).c1 k os
  have y2 := fun k os => cell_grown (w := W3) (a := ⟨j.p, 2, none⟩) hl3 (HC.out _ HO3.out).c2 k os
  generalize ((j.t + 1 : Nat) : Int) = t1 at *
  clear x1 x1' ho1 ho3 hl3
  go_quiet_grown (first | (go_at_call 163; refine Calls.grown_of (HP.out _ HO3.out _ _)) | (go_at_call 343; refine Calls.grown_of (HL.out _ HO3.out _ _)))
  have HO4 := Lib.hid (HO3.out.trans (show Grw W3 (Sort.grow (W3.drewN nq) osq) from ⟨nq, osq, rfl⟩))
  have z0 := y0 nq osq
  go_upto_region 10 with (go_at_call 344; refine (HG.out _ HO4.out).mono ?_; rintro e W5 ⟨rfl, ho5⟩)
  have HO5 := Lib.hid (HO4.out.trans ho5)
  have z5 := (HC.out _ HO5.out).c0
  go_upto_region 11 with (go_at_call 276; refine (HM.out _ HO5.out).mono ?_; rintro e W6 ⟨rfl, h61, h62⟩)
  have z6 := HZ.out _ _ HO5.out h62
  go_wp2_with (go_at_call 226; refine (HF.out _ h61).mono ?_; rintro e W7 ⟨rfl, h1, h2⟩)
  go_ret3
  exact ⟨rfl, h1, ((HO5.out.only.mono fun _ hk => hk.elim).trans h62).trans h2⟩
end
theorem ptInfo : (Tryz.prog.info? 328).map (fun i => (i.zero, i.size, i.bytes)) = some (some (.agg #[.int .i64 0, .int .i64 0, .int .i64 0, .int .i64 0]), 4, 32) := by kernel_rfl
def PCl (n : Nat) (w : World) (e : Ending) (w' : World) : Prop := (∃ A c, e = .returned (.slice A n c)) ∧ Only Non w w'
section
set_option maxHeartbeats 4000000
set_option maxRecDepth 100000
theorem pclone_any {ob n : Nat} {O : Nat → Nat → Int} (w : World) (h : Box w ob 328 (ptC n O)) (hl : n ≤ 100) : Calls Tryz.prog 262 #[.slice (some ⟨ob, 0, none⟩) n n] w (PCl n w) := by
  have he := fun w => Lib.run_eql_slice_nil (P := Tryz.prog) (w := w)
  obtain ⟨i0, hi, hz, hsz, hby⟩ := info_parts ptInfo
  have hal : Only Non w (w.alloc (.cells #[] 328)) := (Only.refl _ _).alloc _
  have hown : (w.alloc (.cells #[] 328)).ownsRow w.heap.size 328 4 (.slice (some ⟨w.heap.size, 0, none⟩) 0 0) 0 [] := ⟨rfl, .inr ⟨w.heap.size, 0, #[], rfl, Nat.le_refl _, Box.fresh w 328 #[], Nat.le_refl _, Nat.zero_le _, rfl, rfl⟩⟩
  have HOW := Lib.hid hown
  have HCE : Hid (∀ j u, (ptC n O).toList[j]? = some u → (w.alloc (.cells #[] 328)).cell? ((⟨ob, 0, none⟩ : Addr).add j) = some u) := Lib.hid fun j u hj => by
    rw [Addr.add_lit, Nat.zero_add]
    exact (hal.box h id).cellAt (by simpa using hj)
  have HAL := Lib.hid hal
  have HIN : Hid (∀ u ∈ (ptC n O).toList, u.oneCell' = true) := Lib.hid fun u hu => by
    unfold ptC at hu
    simp at hu
    obtain ⟨k, rfl⟩ := hu
    rfl
  have HSZ : Hid ((ptC n O).toList.length = n * 4) := Lib.hid (by unfold ptC; simp)
  have HL := Lib.hid hl
  have HI := Lib.hid hi
  have HZ := Lib.hid hz
  have HS := Lib.hid hsz
  have HB := Lib.hid hby
  clear hown hal h hl hi hz hsz hby
  go_enter Tryz.func262, Tryz.ntmps262
  go_wp2_with (at_builtin; refine wpList_append_own_at (w.alloc (.cells #[] 328)) rfl (.tmp 5) (.tmp 6) 310 rfl w.heap.size 328 i0 _ 4 32 Tryz.underlying310 HI.out HZ.out HS.out HB.out rfl (by decide) _ 0 [] rfl HOW.out ⟨ob, 0, none⟩ n n (ptC n O).toList rfl HSZ.out HCE.out HIN.out (by have := HL.out; unfold maxLen; omega) (by have := HL.out; omega) (by rw [World.size_alloc]; omega) ?_; intro v' w1 h2 h3 h4 h5; have H2 := Lib.hid h2; have H3 := Lib.hid h3; clear h2 h3 h4 h5)
  go_ret
  have h2 := H2.out
  rw [Nat.zero_add] at h2
  obtain ⟨A', c', rfl, _, _⟩ := row_form h2
  exact ⟨⟨A', c', rfl⟩, HAL.out.trans' ((Only.refl _ _).grown (S := fun k => w.heap.size ≤ k) H3.out fun k hk => .inl (by
    have : w.heap.size = k := ownB_slice.1 hk
    omega)) fun k hk => .inr hk⟩
theorem parts_of {i : PlanI} {blocks : Int} {q : Nat → Int} {l : List HintA} {O : Nat → Nat → Int} (w : World) (h : PlanB w i blocks q l O) : Calls Tryz.prog 216 #[.pointer (some ⟨i.pb, 0, none⟩)] w (PCl l.length w) := by
  have HC := Lib.hid (pclone_any w h.prt (by have := h.hP.2.2; omega))
  have x5 : w.cell? ⟨i.pb, 5, none⟩ = some (.slice (some ⟨i.ob, 0, none⟩) l.length l.length) := h.box.cellAt rfl
  clear h
  go_enter Tryz.func216, Tryz.ntmps216
  go_wp2_with (go_at_call 262; refine HC.out.mono ?_; rintro e W1 ⟨⟨A, c, rfl⟩, ho⟩)
  go_ret
  exact ⟨⟨A, c, rfl⟩, ho⟩
end
def z4 : Array Value := #[.int .i64 0, .int .i64 0, .int .i64 0, .int .i64 0]
theorem made4 (m : Nat) : madeCells z4 (m * 4) = ptC m (fun _ _ => 0) := by
  refine Array.ext (by simp [madeCells, ptC]) fun i h1 h2 => ?_
  simp only [madeCells, ptC, Array.getElem_map, Array.getElem_range, Array.getElem_ofFn]
  have h3 : i % 4 < 4 := Nat.mod_lt _ (by decide)
  show z4[i % 4]! = .int .i64 0
  generalize i % 4 = j at *
  rcases (show j = 0 ∨ j = 1 ∨ j = 2 ∨ j = 3 by omega) with rfl | rfl | rfl | rfl <;> rfl
theorem run_make4 (m : Nat) (hm : m ≤ 40) (w : World) : (Instr.makeSlice 310 (.int .i64 m) (.int .i64 m)).run Tryz.prog w = .ok (.slice (some ⟨w.heap.size, 0, none⟩) m m) (w.alloc (.cells (ptC m (fun _ _ => 0)) 328)) := by
  obtain ⟨i, hi, hzz⟩ := Option.map_eq_some_iff.1 ptInfo
  simp only [Prod.mk.injEq] at hzz
  obtain ⟨hz, hs, hb⟩ := hzz
  have := run_make (P := Tryz.prog) w 310 328 i _ Tryz.underlying310 hi hz .i64 .i64 m m (by omega) (Int.le_refl _) (by rw [hb]; omega) (by omega)
  rw [hs] at this
  rw [this, ← made4]
  rfl
def capC (c : Nat → Int) : Array Value := #[.int .i64 (c 0), .int .i64 (c 1), .int .i64 (c 2)]
theorem capC_at (c : Nat → Int) {t : Nat} (ht : t < 3) : (capC c)[t]? = some (.int .i64 (c t)) := by
  rcases (show t = 0 ∨ t = 1 ∨ t = 2 by omega) with rfl | rfl | rfl <;> rfl
theorem capC_set (c : Nat → Int) {t : Nat} (ht : t < 3) (v : Int) : (capC c).setIfInBounds t (.int .i64 v) = capC (fun x => if x = t then v else c x) := by
  rcases (show t = 0 ∨ t = 1 ∨ t = 2 by omega) with rfl | rfl | rfl <;> simp [capC]
def frF (p : Int × Int) : List Value := [.int .i64 p.1, .int .i64 p.2]
theorem frF_len (p : Int × Int) : (frF p).length = 2 := rfl
theorem frFlat_len (L : FrcL) : (L.flatMap frF).length = L.length * 2 := by
  rw [List.length_flatMap]
  have : (L.map fun p => (frF p).length) = L.map fun _ => 2 := rfl
  rw [this, List.map_const', List.sum_replicate_nat]
theorem owns_frcs {w : World} {base : Nat} {v : Value} {L : FrcL} (h : w.ownsRow base 382 2 v L.length (L.flatMap frF)) : ∃ A c, v = .slice A L.length c ∧ FrcsAt w A L.length c L := by
  rcases h.2 with ⟨e, h0⟩ | ⟨g, cap, cur, e, hb, hg, hn, hm, hs, ht⟩
  · rw [h0]
    exact ⟨none, 0, e, ⟨h0.symm, Nat.zero_le _, Nat.zero_le _, fun i hi => by omega⟩⟩
  · refine ⟨some ⟨g, 0, none⟩, cap, e, ⟨rfl, hn, hm, fun i hi => ?_⟩⟩
    have key : ∀ j u, j < 2 → (frF (L.getD i default))[j]? = some u → w.cell? ⟨g, 0 + i * 2 + j, none⟩ = some u := fun j u hj hu => by
      have hc := h.cells (g := g) (by rw [e]; rfl) (i * 2 + j) u (by rw [flat_at frF 2 default frF_len L i j hi hj]; exact hu)
      rw [Addr.add_lit, ← Nat.add_assoc] at hc
      exact hc
    exact ⟨g, 0, rfl, (Array.getElem?_eq_some_iff.1 hg).1, key 0 _ (by decide) rfl, key 1 _ (by decide) rfl⟩
theorem hintFr_len (l : List HintA) : (hintFr l).length = l.length := by simp [hintFr]
theorem hintFr_at (l : List HintA) {i : Nat} (hi : i < l.length) : (hintFr l).getD i default = ((l.getD i default).often, (l.getD i default).size) := by
  simp [hintFr, hi]
theorem hintFr_ok {blocks : Int} {l : List HintA} (h : hintsP blocks l) : FrcsOk (hintFr l) := fun i hi => by
  rw [hintFr_len] at hi
  have := h.1 i hi
  unfold okH at this
  rw [hintFr_at l hi]
  exact ⟨by omega, by omega, by show 0 < (l.getD i default).size; omega, by show (l.getD i default).size ≤ _; omega⟩
theorem frcOrd_lt (l : FrcL) : ∀ x ∈ frcOrd l, x < l.length := by
  intro x hx
  cases h : l.length with
  | zero => rw [frcOrd_zero h] at hx; cases hx
  | succ m =>
    rw [frcOrd_succ h, List.mem_map] at hx
    obtain ⟨a, _, rfl⟩ := hx
    exact a.isLt
def alMid (l : List HintA) (s : AlS) (i k : Nat) : AlS := (List.range k).foldl (alTier i) { s with left := (l.getD i default).size }
theorem alMid_zero (l : List HintA) (s : AlS) (i : Nat) : alMid l s i 0 = { s with left := (l.getD i default).size } := rfl
theorem alMid_succ (l : List HintA) (s : AlS) (i k : Nat) : alMid l s i (k + 1) = alTier i (alMid l s i k) k := by
  unfold alMid; rw [List.range_succ, List.foldl_append]; rfl
def alPre (l : List HintA) (q : Nat → Int) (ord : List Nat) (k : Nat) : AlS := (ord.take k).foldl (alRange l) ⟨q, fun _ _ => 0, 0⟩
theorem alPre_succ (l : List HintA) (q : Nat → Int) (ord : List Nat) {k : Nat} (hk : k < ord.length) : alPre l q ord (k + 1) = alRange l (alPre l q ord k) (ord.getD k 0) := by
  unfold alPre
  rw [List.take_succ_eq_append_getElem hk, List.foldl_append]
  simp [hk]
theorem alRange_eq (l : List HintA) (s : AlS) (i : Nat) : alRange l s i = { alMid l s i 3 with o := fun r x => if r = i ∧ x = 3 then (alMid l s i 3).left else (alMid l s i 3).o r x } := rfl
structure AlOk (s : AlS) : Prop where
  c : ∀ x, x < 3 → 0 ≤ s.c x ∧ s.c x ≤ 16
  l0 : 0 ≤ s.left
  l1 : s.left ≤ 32
theorem alTier_ok {s : AlS} (h : AlOk s) (i : Nat) {t : Nat} (ht : t < 3) : AlOk (alTier i s t) := by
  have h1 := h.c t ht; have h2 := h.l0; have h3 := h.l1
  refine ⟨fun x hx => ?_, ?_, ?_⟩
  · unfold alTier
    dsimp only
    split
    · omega
    · exact h.c x hx
  · unfold alTier; dsimp only; omega
  · unfold alTier; dsimp only; omega
theorem alMid_ok {l : List HintA} {s : AlS} {i : Nat} (h : ∀ x, x < 3 → 0 ≤ s.c x ∧ s.c x ≤ 16) (hs : 0 ≤ (l.getD i default).size ∧ (l.getD i default).size ≤ 32) : ∀ {k : Nat}, k ≤ 3 → AlOk (alMid l s i k)
  | 0, _ => ⟨h, hs.1, hs.2⟩
  | k + 1, hk => by rw [alMid_succ]; exact alTier_ok (alMid_ok h hs (by omega)) i (by omega)
theorem alPre_ok {blocks : Int} {l : List HintA} (hP : hintsP blocks l) {q : Nat → Int} (hq : ∀ x, x < 3 → 0 ≤ q x ∧ q x ≤ 16) {ord : List Nat} (ho : ∀ x ∈ ord, x < l.length) : ∀ k, ∀ x, x < 3 → 0 ≤ (alPre l q ord k).c x ∧ (alPre l q ord k).c x ≤ 16
  | 0, x, hx => hq x hx
  | k + 1, x, hx => by
    by_cases hk : k < ord.length
    · rw [alPre_succ l q ord hk, alRange_eq]
      have hm := ho (ord.getD k 0) (by simp [hk])
      have hh := hP.1 _ hm
      unfold okH at hh
      exact (alMid_ok (alPre_ok hP hq ho k) ⟨by omega, by omega⟩ (Nat.le_refl 3)).c x hx
    · have : alPre l q ord (k + 1) = alPre l q ord k := by unfold alPre; rw [List.take_of_length_le (by omega), List.take_of_length_le (by omega)]
      rw [this]
      exact alPre_ok hP hq ho k x hx
def AlPost (l : List HintA) (q : Nat → Int) (w : World) (e : Ending) (w' : World) : Prop :=
  ∃ ob, e = .returned (.slice (some ⟨ob, 0, none⟩) l.length l.length) ∧ Box w' ob 328 (ptC l.length (alcO l q)) ∧ w.heap.size ≤ ob ∧ Only Non w w'
def A1Rel (l : List HintA) (w : World) (f i : Value) (wr : World) : Prop :=
  ∃ k : Nat, k ≤ l.length ∧ i = .int .i64 k ∧ wr.ownsRow w.heap.size 382 2 f k (((hintFr l).take k).flatMap frF) ∧ Only Non w wr
def Duo (a b : Nat) : Nat → Prop := fun k => k = a ∨ k = b
def A2Rel (l : List HintA) (q : Nat → Int) (cb ob : Nat) (w : World) (i : Value) (wr : World) : Prop :=
  ∃ k : Nat, k ≤ l.length ∧ i = .int .i64 k ∧ Box wr cb 22 (capC (alPre l q (frcOrd (hintFr l)) k).c) ∧ Box wr ob 328 (ptC l.length (alPre l q (frcOrd (hintFr l)) k).o) ∧ Only (Duo cb ob) w wr
def A3Rel (l : List HintA) (s : AlS) (r cb ob : Nat) (w : World) (lf t : Value) (wr : World) : Prop :=
  ∃ k : Nat, k ≤ 3 ∧ t = .int .i64 k ∧ lf = .int .i64 (alMid l s r k).left ∧ Box wr cb 22 (capC (alMid l s r k).c) ∧ Box wr ob 328 (ptC l.length (alMid l s r k).o) ∧ Only (Duo cb ob) w wr
theorem frInfo : (Tryz.prog.info? 382).map (fun i => (i.zero, i.size, i.bytes)) = some (some (.agg #[.int .i64 0, .int .i64 0]), 2, 16) := by kernel_rfl
theorem al_boxes {w : World} {cb ob n r t : Nat} {s : AlS} (hb : Box w cb 22 (capC s.c)) (hp : Box w ob 328 (ptC n s.o)) (ht : t < 3) (hr : r < n) (hne : ¬ ob = cb) (m d : Int) (hm : m = min s.left (s.c t)) (hd : d = s.c t - m) :
    Box ((w.setCell ⟨ob, r * 4 + t, none⟩ (.int .i64 m)).setCell ⟨cb, t, none⟩ (.int .i64 d)) cb 22 (capC (alTier r s t).c) ∧
    Box ((w.setCell ⟨ob, r * 4 + t, none⟩ (.int .i64 m)).setCell ⟨cb, t, none⟩ (.int .i64 d)) ob 328 (ptC n (alTier r s t).o) := by
  constructor
  · have h1 := (hb.far (p := ⟨ob, r * 4 + t, none⟩) (fun e => hne (show cb = ob from e).symm) (.int .i64 m)).store t (.int .i64 d)
    rw [capC_set _ ht, hd, hm] at h1
    rw [hd, hm]
    exact h1
  · have h1 := (hp.store (r * 4 + t) (.int .i64 m)).far (p := ⟨cb, t, none⟩) hne (.int .i64 d)
    rw [ptC_set n _ hr (by omega), hm] at h1
    rw [hm]
    exact h1
section
set_option maxHeartbeats 4000000
set_option maxRecDepth 100000
theorem allocate_any {A : Option Addr} {n c : Nat} {blocks : Int} {l : List HintA} {q : Nat → Int} (w : World) (hin : HintsAt w A n c l) (hP : hintsP blocks l) (hq : ∀ t, t < 3 → 0 ≤ q t ∧ q t ≤ 16) :
    Calls Tryz.prog 261 #[.slice A n c, .agg (capC q)] w (AlPost l q w) := by
  obtain rfl := hin.len
  have H := Lib.hid hin
  have HP := Lib.hid hP
  have HQ := Lib.hid hq
  have HOK := Lib.hid (hintFr_ok hP)
  have hn8 := hP.2.2
  have HN8 := Lib.hid hn8
  clear hin hP hq
  go_enter Tryz.func261, Tryz.ntmps261
  go_upto_region 1 with fail
  have HB := Lib.hid (Box.fresh w 22 (capC q))
  have HO := Lib.hid ((Only.refl Non w).alloc (.cells (capC q) 22))
  have HCB := Lib.hid (Nat.le_refl w.heap.size)
  have H1 := Lib.hid (H.out.keep HO.out)
  change Code.wp _ _ _ _ (w.alloc (.cells (capC q) 22))
  generalize w.alloc (.cells (capC q) 22) = W at *
  obtain ⟨cb, hcb⟩ : ∃ cb, cb = w.heap.size := ⟨_, rfl⟩
  rw [← hcb] at HB ⊢
  have HCB := Lib.hid (show w.heap.size ≤ cb from Nat.le_of_eq hcb.symm)
  clear hcb
  go_upto_region 3 with fail
  go_loopw [5, 18] (fun f i wr => A1Rel l W f i wr) (fun _ i _ => l.length - (intOf i).toNat)
  case atStart => exact ⟨0, Nat.zero_le _, rfl, World.ownsRow_nil _ _ _ _, Only.refl _ _⟩
  case round =>
    obtain ⟨k, hk, rfl, hown, ho⟩ := hrel
    have HOW := Lib.hid hown
    have HOF := Lib.hid ho
    clear hown ho
    by_cases hlt : k < l.length
    · obtain ⟨g, o, rfl, hgl, x0, x1, x2, x3⟩ := (H1.out.keep HOF.out).at_ k hlt
      have HFR := Lib.hid (hintFr_at l hlt)
      have hlti : (k : Int) < l.length := by omega
      have HLT := Lib.hid hlt
      clear hlt hk
      generalize (l.getD k default).fr = a0 at *
      generalize (l.getD k default).size = a1 at *
      generalize (l.getD k default).often = a2 at *
      generalize (l.getD k default).loop = a3 at *
      go_upto_region 5 with (refine wpList_store_row rfl 141 _ _ rfl wr.heap.size #[.int .i64 a0, .int .i64 a1, .int .i64 a2, .bool a3] rfl rfl 141 _ (Box.fresh wr 141 zH) (by kernel_rfl) rfl (by simp [Value.oneCell']) ?_)
      have ho2 : Only Non wr ((wr.alloc (.cells zH 141)).setRow wr.heap.size #[.int .i64 a0, .int .i64 a1, .int .i64 a2, .bool a3]) := ((Only.refl Non wr).alloc _).setRow' (.inr (Nat.le_refl _)) _
      have hb2 := (Box.fresh wr 141 zH).setRow' #[.int .i64 a0, .int .i64 a1, .int .i64 a2, .bool a3]
      have HOW2 := Lib.hid (ownsRow_only HOW.out ho2 fun _ _ => id)
      have HOF2 := Lib.hid (HOF.out.trans ho2)
      change Code.wp _ _ _ _ ((wr.alloc (.cells zH 141)).setRow wr.heap.size #[.int .i64 a0, .int .i64 a1, .int .i64 a2, .bool a3])
      clear ho2 x0 x1 x2 x3 HOF
      generalize (wr.alloc (.cells zH 141)).setRow wr.heap.size #[.int .i64 a0, .int .i64 a1, .int .i64 a2, .bool a3] = W2 at *
      have y1 : W2.cell? ⟨wr.heap.size, 1, none⟩ = some (.int .i64 a1) := hb2.cellAt rfl
      have y2 : W2.cell? ⟨wr.heap.size, 2, none⟩ = some (.int .i64 a2) := hb2.cellAt rfl
      have hal : Only Non W2 (W2.alloc (.cells #[.int .i64 a2, .int .i64 a1] 382)) := (Only.refl _ _).alloc _
      have HB3 := Lib.hid (show ∀ j u, (frF (a2, a1))[j]? = some u → (W2.alloc (.cells #[.int .i64 a2, .int .i64 a1] 382)).cell? ((⟨W2.heap.size, 0, none⟩ : Addr).add j) = some u from fun j u hj => by
        rw [Addr.add_lit, Nat.zero_add]
        exact (Box.fresh W2 382 #[.int .i64 a2, .int .i64 a1]).cellAt (by rw [← Array.getElem?_toList]; exact hj))
      have HOW3 := Lib.hid (ownsRow_only HOW2.out hal fun _ _ => id)
      have HOF3 := Lib.hid (HOF2.out.trans hal)
      have HSZ := Lib.hid HOF3.out.size
      clear hb2 hal
      go_wp2_with (at_builtin; refine wpList_wide _ rfl (.tmp 22) (.tmp 28) 380 382 rfl frInfo rfl (by decide) Tryz.underlying380 W.heap.size u5 k _ (frF (a2, a1)) rfl HOW3.out ⟨W2.heap.size, 0, none⟩ rfl rfl HB3.out (by simp [frF, Value.oneCell']) (by unfold maxLen; have := HLT.out; have := HN8.out; omega) (by have := HLT.out; have := HN8.out; omega) HSZ.out ?_; intro v' w1 hown' hgr _)
      go_roundw
      case rel =>
        refine ⟨k + 1, HLT.out, by go_num, ?_, HOF3.out.trans' hgr fun j hj => .inr (World.ownsRow.lt HOW3.out j hj).1⟩
        rw [List.take_succ_eq_append_getElem (by rw [hintFr_len]; exact HLT.out), List.flatMap_append]
        have := HFR.out
        rw [List.getD_eq_getElem?_getD, List.getElem?_eq_getElem (by rw [hintFr_len]; exact HLT.out), Option.getD_some] at this
        rw [this]
        simpa using hown'
      case measure => simp [intOf]; have := HLT.out; omega
    · obtain rfl : k = l.length := by omega
      clear hlt hk
      rw [List.take_of_length_le (by rw [hintFr_len]; exact Nat.le_refl _)] at HOW
      have hlen := hintFr_len l
      rw [← hlen] at HOW
      obtain ⟨FA, fc, efr, hfr⟩ := owns_frcs HOW.out
      rw [hlen] at efr hfr
      have HW := Lib.hid (worder_any wr hfr HOK.out (by rw [hlen]; omega))
      have HOF4 := Lib.hid HOF.out
      clear hlen HOW hfr
      subst efr
      go_upto_region 8 with (go_at_call 293; refine HW.out.mono ?_; rintro e W4 ⟨ov, rfl, hov, ho4⟩)
      have hol : ((frcOrd (hintFr l)).map Int.ofNat).length = l.length := by rw [List.length_map, frcOrd_len, hintFr_len]
      obtain ⟨OA, oc, eo, _⟩ := hov.shape
      rw [hol] at eo
      have HOV := Lib.hid hov
      have HOL := Lib.hid hol
      subst eo
      clear hov hol HW
      have hmk := run_make4 l.length (by omega) W4
      have HO5 := Lib.hid ((HOF4.out.trans ho4).alloc (.cells (ptC l.length (fun _ _ => 0)) 328))
      have HO45 := Lib.hid ((Only.refl Non W4).alloc (.cells (ptC l.length (fun _ _ => 0)) 328))
      have HPB := Lib.hid (Box.fresh W4 328 (ptC l.length (fun _ _ => 0)))
      have HIV := Lib.hid (IntsAt.keep HOV.out.at HO45.out fun _ _ _ _ _ => id)
      have HOB := Lib.hid (show W.heap.size ≤ W4.heap.size ∧ (∀ k, ownB (.slice OA l.length oc) k → wr.heap.size ≤ k ∧ k < W4.heap.size) from ⟨(HOF4.out.trans ho4).size, fun k hk => HOV.out.lt k hk⟩)
      have HWR := Lib.hid HOF4.out.size
      clear ho4 HOF4
      go_upto_region 9 with fail
      change Code.wp _ _ _ _ (W4.alloc (.cells (ptC l.length (fun _ _ => 0)) 328))
      generalize W4.alloc (.cells (ptC l.length (fun _ _ => 0)) 328) = W5 at *
      generalize W4.heap.size = ob at *
      clear hmk
      have HLTC := Lib.hid HB.out.lt
      have HB5 := Lib.hid (HO5.out.box HB.out id)
      go_upto_region 10 with fail
      go_loopw [41] (fun i wx => A2Rel l q cb ob W5 i wx) (fun i _ => l.length - (intOf i).toNat)
      case atStart => exact ⟨0, Nat.zero_le _, rfl, HB5.out, HPB.out, Only.refl _ _⟩
      case round =>
        obtain ⟨k, hk, rfl, hb6, hp6, ho6⟩ := hrel
        have HB6 := Lib.hid hb6
        have HP6 := Lib.hid hp6
        have HO6 := Lib.hid ho6
        clear hb6 hp6 ho6
        by_cases hlt : k < l.length
        · have hkl : k < (frcOrd (hintFr l)).length := by rw [frcOrd_len, hintFr_len]; exact hlt
          have hrm := frcOrd_lt (hintFr l) ((frcOrd (hintFr l)).getD k 0) (by simp [hkl])
          rw [hintFr_len] at hrm
          have HSU := Lib.hid (alPre_succ l q (frcOrd (hintFr l)) hkl)
          obtain ⟨g5, o5, rfl, x5⟩ := (HIV.out.keep HO6.out fun g o n c e hd => by
            have := HOB.out.2 g (by rw [e]; exact ownB_slice.2 rfl)
            have := HCB.out; have := HLTC.out; have := HWR.out
            rcases hd with hd | hd <;> omega).cellAt (i := k) (by rw [HOL.out]; exact hlt)
          have exv : ((frcOrd (hintFr l)).map Int.ofNat).getD k 0 = (((frcOrd (hintFr l)).getD k 0 : Nat) : Int) := by simp [hkl]
          rw [exv] at x5
          have HALL := Lib.hid ((HO.out.trans HO5.out).trans' HO6.out (fun b hb => .inr (by
            have := HCB.out; have := HOB.out.1; have := HO.out.size
            rcases hb with hb | hb <;> omega)))
          obtain ⟨g, o, rfl, hgl, y0, y1, y2, y3⟩ := (H.out.keep HALL.out).at_ _ hrm
          have hok := HP.out.1 _ hrm
          unfold okH at hok
          have HPOK := Lib.hid (alPre_ok HP.out HQ.out (fun x hx => by have := frcOrd_lt (hintFr l) x hx; rwa [hintFr_len] at this) k)
          generalize (frcOrd (hintFr l)).getD k 0 = r at *
          have HSZ := Lib.hid (show 0 ≤ (l.getD r default).size ∧ (l.getD r default).size ≤ 32 from ⟨by omega, by omega⟩)
          have HZQ := Lib.hid (alMid_zero l (alPre l q (frcOrd (hintFr l)) k) r)
          have hri : (r : Int) < l.length := by omega
          have hlti : (k : Int) < l.length := by omega
          have HLT := Lib.hid hlt
          have HRM := Lib.hid hrm
          clear hok exv hkl hlt hrm hk y0 y2 y3
          generalize hps : alPre l q (frcOrd (hintFr l)) k = s at *
          have HPS := Lib.hid hps
          clear hps
          go_upto_region 14 with fail
          go_loopw [13, 50] (fun lf t wx => A3Rel l s r cb ob W5 lf t wx) (fun _ t _ => 3 - (intOf t).toNat)
          case atStart => exact ⟨0, by omega, rfl, by rw [HZQ.out]; simp, by rw [HZQ.out]; exact HB6.out, by rw [HZQ.out]; exact HP6.out, HO6.out⟩
          case round =>
            obtain ⟨t, ht, rfl, rfl, hb7, hp7, ho7⟩ := hrel
            have HB7 := Lib.hid hb7
            have HP7 := Lib.hid hp7
            have HO7 := Lib.hid ho7
            clear hb7 hp7 ho7
            by_cases htl : t < 3
            · have hokt := alMid_ok HPOK.out HSZ.out ht
              have h1 := hokt.c t htl
              have h2 := hokt.l0
              have h3 := hokt.l1
              have HTS := Lib.hid (alMid_succ l s r t)
              have z1 := HB7.out.cellAt (capC_at _ htl)
              have z1f := HB7.out.free t
              have z2 := HP7.out.cellAt (ptC_at l.length (alMid l s r t).o HRM.out (show t < 4 by omega))
              have z2f := HP7.out.free (r * 4 + t)
              have hne : ¬ ob = cb := by have := HLTC.out; have := HOB.out.1; omega
              have hne2 : ¬ cb = ob := fun e => hne e.symm
              have hti : (t : Int) < 3 := by omega
              have hti4 : (t : Int) < 4 := by omega
              have HTL := Lib.hid htl
              clear htl ht hokt
              generalize hcs : (alMid l s r t).c t = cs at *
              generalize hls : (alMid l s r t).left = ls at *
              have HCS := Lib.hid hcs
              have HLS := Lib.hid hls
              clear hcs hls
              by_cases hmin : cs < ls
              · go_wp2
                go_roundw
                case rel =>
                  refine ⟨t + 1, HTL.out, by go_num, ?_, ?_, ?_, ?_⟩
                  · rw [HTS.out]; unfold alTier; dsimp only; rw [HLS.out, HCS.out]
                  · rw [HTS.out]; exact (al_boxes HB7.out HP7.out HTL.out HRM.out hne _ _ (by rw [HLS.out, HCS.out]; try omega) (by rw [HCS.out]; try omega)).1
                  · rw [HTS.out]; exact (al_boxes HB7.out HP7.out HTL.out HRM.out hne _ _ (by rw [HLS.out, HCS.out]; try omega) (by rw [HCS.out]; try omega)).2
                  · exact (HO7.out.setCell (p := ⟨ob, r * 4 + t, none⟩) (.inl (.inr rfl)) _).setCell (p := ⟨cb, t, none⟩) (.inl (.inl rfl)) _
                case measure => simp [intOf]; have := HTL.out; omega
              · go_wp2
                go_roundw
                case rel =>
                  refine ⟨t + 1, HTL.out, by go_num, ?_, ?_, ?_, ?_⟩
                  · rw [HTS.out]; unfold alTier; dsimp only; rw [HLS.out, HCS.out]
                  · rw [HTS.out]; exact (al_boxes HB7.out HP7.out HTL.out HRM.out hne _ _ (by rw [HLS.out, HCS.out]; try omega) (by rw [HCS.out]; try omega)).1
                  · rw [HTS.out]; exact (al_boxes HB7.out HP7.out HTL.out HRM.out hne _ _ (by rw [HLS.out, HCS.out]; try omega) (by rw [HCS.out]; try omega)).2
                  · exact (HO7.out.setCell (p := ⟨ob, r * 4 + t, none⟩) (.inl (.inr rfl)) _).setCell (p := ⟨cb, t, none⟩) (.inl (.inl rfl)) _
                case measure => simp [intOf]; have := HTL.out; omega
            · obtain rfl : t = 3 := by omega
              clear htl ht
              have hne : ¬ ob = cb := by have := HLTC.out; have := HOB.out.1; omega
              have z2 := HP7.out.cellAt (ptC_at l.length (alMid l s r 3).o HRM.out (show 3 < 4 by omega))
              have z2f := HP7.out.free (r * 4 + 3)
              go_wp2
              go_roundw
              case rel =>
                refine ⟨k + 1, HLT.out, by go_num, ?_, ?_, ?_⟩
                · rw [HSU.out, alRange_eq]
                  exact HB7.out.far (fun e => hne (show cb = ob from e).symm) _
                · rw [HSU.out, alRange_eq]
                  have h1 := HP7.out.store (r * 4 + 3) (.int .i64 (alMid l s r 3).left)
                  rw [ptC_set l.length _ HRM.out (show 3 < 4 by omega)] at h1
                  exact h1
                · exact HO7.out.setCell (p := ⟨ob, r * 4 + 3, none⟩) (.inl (.inr rfl)) _
              case measure => simp [intOf]; have := HLT.out; omega
        · obtain rfl : k = l.length := by omega
          clear hlt hk
          go_wp2_with fail
          go_ret
          refine ⟨ob, rfl, ?_, Nat.le_trans HO.out.size HOB.out.1, ?_⟩
          · have h1 := HP6.out
            have e : alPre l q (frcOrd (hintFr l)) l.length = alcOf l q (frcOrd (hintFr l)) := by
              unfold alPre alcOf
              rw [List.take_of_length_le (by rw [frcOrd_len, hintFr_len]; exact Nat.le_refl _)]
            rw [e] at h1
            exact h1
          · exact (HO.out.trans HO5.out).trans' HO6.out (fun b hb => .inr (by
              have := HCB.out; have := HOB.out.1; have := HO.out.size
              rcases hb with hb | hb <;> omega))
end
def prtTo (S : Nat → List Int) (k : Nat) : List Int := (List.range k).flatMap S
theorem prtTo_succ (S : Nat → List Int) (k : Nat) : prtTo S (k + 1) = prtTo S k ++ S k := by unfold prtTo; rw [List.range_succ, List.flatMap_append]; simp
theorem prtTo_len {S : Nat → List Int} (h : ∀ r, (S r).length ≤ 64) : ∀ k, (prtTo S k).length ≤ 64 * k
  | 0 => by simp [prtTo]
  | k + 1 => by rw [prtTo_succ, List.length_append]; have := prtTo_len h k; have := h k; omega
def PaRel (w W : World) (n : Nat) (S : Nat → List Int) (v i : Value) (wr : World) : Prop := ∃ k : Nat, k ≤ n ∧ i = .int .i64 k ∧ OwnInts 3 wr w.heap.size v (prtTo S k) ∧ Only Non w wr
section
set_option maxHeartbeats 4000000
set_option maxRecDepth 100000
variable {j : PrtI} {blocks : Int} {q : Nat → Int} {l : List HintA} {O : Nat → Nat → Int} {S : Nat → List Int}
theorem prt_all (w : World) (h : PrtB w j blocks q l O S) : Calls Tryz.prog 338 #[.pointer (some ⟨j.p, 0, none⟩)] w fun e w' => ∃ v, e = .returned v ∧ OwnInts 3 w' w.heap.size v (prtTo S l.length) ∧ Only Non w w' := by
  have HC := Lib.hid (parts_of w h.pl)
  have h8 := h.pl.hP.2.2
  have x1 := h.c1
  have HH := Lib.hid h
  have H64 := Lib.hid (show ∀ r, (S r).length ≤ 64 from by obtain ⟨N, E, hm, hr, _⟩ := h.sp; exact fun r => hr.len r)
  clear h
  generalize hn : l.length = n at *
  have HN := Lib.hid hn
  clear hn
  go_enter Tryz.func338, Tryz.ntmps338
  go_wp2_with (go_at_call 216; refine HC.out.mono ?_; rintro e W1 ⟨⟨A, c, rfl⟩, ho1⟩)
  have HO1 := Lib.hid ho1
  clear HC x1 ho1
  go_loopw [3, 13] (fun v i wr => PaRel w W1 n S v i wr) (fun _ i _ => n - (intOf i).toNat)
  case atStart => exact ⟨0, Nat.zero_le _, rfl, OwnInts.nil _ _ _, HO1.out⟩
  case round =>
    obtain ⟨k, hk, rfl, hown, ho⟩ := hrel
    have HOW := Lib.hid hown
    have HO := Lib.hid ho
    clear hown ho
    by_cases hlt : k < n
    · have hlti : (k : Int) < n := by omega
      have HLT := Lib.hid hlt
      have x0 := (HH.out.keep HO.out).c0
      have HA := Lib.hid (all_any wr (HH.out.keep HO.out).sp (i := k) (by rw [HN.out]; omega))
      have HL := Lib.hid (show (prtTo S k).length + (S k).length ≤ 1000000 from by have := prtTo_len H64.out k; have := H64.out k; omega)
      have HS := Lib.hid HO.out.size
      clear hlt hk
      go_wp2_with (first | (go_at_call 274; refine HA.out.mono ?_; rintro e W2 ⟨va, rfl, ha1, ha2⟩) | (at_builtin; refine wpList_ownapp _ rfl (.tmp 16) (.tmp 23) 43 3 rfl intInfo Tryz.underlying43 w.heap.size u3 (prtTo S k) rfl (HOW.out.only ha2 fun _ _ => id) wr.heap.size va (S k) rfl ha1 HL.out (Nat.le_trans HS.out ha2.size) ?_; intro v' w1 hown' hgr))
      go_roundw
      case rel =>
        refine ⟨k + 1, HLT.out, by go_num, by rw [prtTo_succ]; exact hown', (HO.out.trans ha2).trans' hgr fun jj hj => .inr (HOW.out.lt jj hj).1⟩
      case measure => simp [intOf]; have := HLT.out; omega
    · obtain rfl : k = n := by omega
      clear hlt hk
      go_wp2_with fail
      go_ret
      exact ⟨_, rfl, HOW.out, HO.out⟩
theorem prt_len (w : World) (h : PrtB w j blocks q l O S) : Calls Tryz.prog 340 #[.pointer (some ⟨j.p, 0, none⟩)] w fun e w' => e = .returned (.int .i64 (prtTo S l.length).length) ∧ Only Non w w' := by
  have HA := Lib.hid (prt_all w h)
  clear h
  generalize prtTo S l.length = L at *
  have HA : Hid (Calls Tryz.prog 338 #[.pointer (some ⟨j.p, 0, none⟩)] w fun e w' => (∃ A c, e = .returned (.slice A L.length c)) ∧ Only Non w w') := Lib.hid (HA.out.mono fun e w' ⟨v, h1, h2, h3⟩ => by
    obtain ⟨A, c, rfl, _⟩ := h2.shape
    exact ⟨⟨A, c, h1⟩, h3⟩)
  go_enter Tryz.func340, Tryz.ntmps340
  go_wp2_with (go_at_call 338; refine HA.out.mono ?_; rintro e W1 ⟨⟨A, c, rfl⟩, ho⟩)
  go_ret
  exact ⟨rfl, ho⟩
end
def PrtNew (i : PlanI) (t : Nat) (blocks : Int) (q : Nat → Int) (l : List HintA) (O : Nat → Nat → Int) (w : World) (e : Ending) (w' : World) : Prop :=
  ∃ p g eb, e = .returned (.tuple #[.pointer (some ⟨p, 0, none⟩), .int .i64 0]) ∧ PrtB w' ⟨p, g, eb, i, t⟩ blocks q l O (fun _ => []) ∧ w.heap.size ≤ p ∧ w.heap.size ≤ g ∧ w.heap.size ≤ eb ∧ Only Non w w'
section
set_option maxHeartbeats 4000000
set_option maxRecDepth 100000
theorem prt_new {i : PlanI} {t : Nat} {blocks : Int} {q : Nat → Int} {l : List HintA} {O : Nat → Nat → Int} (w : World) (h : PlanB w i blocks q l O) (ht : t < 3) :
    Calls Tryz.prog 157 #[.pointer (some ⟨i.pb, 0, none⟩), .int .i64 ((t + 1 : Nat) : Int)] w (PrtNew i t blocks q l O w) := by
  have HC := Lib.hid (parts_of w h)
  have h8 := h.hP.2.2
  have HH := Lib.hid h
  have HT := Lib.hid ht
  have ht1 : ¬ ((t + 1 : Nat) : Int) < 1 := by omega
  have ht2 : ¬ (3 : Int) < ((t + 1 : Nat) : Int) := by omega
  have ew : IntKind.i64.wrap ((l.length : Int) + 1) = ((l.length + 1 : Nat) : Int) := by rw [IntKind.wrap_i64]; omega
  have HN := Lib.hid (fun w => new_any (m := l.length + 1) w (by omega) (by omega))
  clear h ht
  generalize hq : ((t + 1 : Nat) : Int) = t1 at *
  have HQ := Lib.hid hq
  clear hq
  go_enter Tryz.func157, Tryz.ntmps157
  go_wp2_with (first | (go_at_call 216; refine HC.out.mono ?_; rintro e W1 ⟨⟨A, c, rfl⟩, ho1⟩) | (go_at_call 165; refine (HN.out _).mono ?_; rintro e W2 ⟨g, eb, rfl, h1, h2, h3, h4⟩))
  go_ret2
  have hs1 : w.heap.size ≤ W1.heap.size := ho1.size
  have hs2 : W1.heap.size ≤ W2.heap.size := h4.size
  have ho := (ho1.trans h4).alloc (.cells #[.pointer (some ⟨g, 0, none⟩), .pointer (some ⟨i.pb, 0, none⟩), .int .i64 t1] 260)
  refine ⟨W2.heap.size, g, eb, rfl, ⟨?_, h1.keep ((Only.refl Non W2).alloc _), HH.out.keep ho, HT.out⟩, Nat.le_trans hs1 hs2, Nat.le_trans hs1 h2, Nat.le_trans hs1 h3, ho⟩
  unfold prtC
  rw [HQ.out]
  exact Box.fresh _ _ _
end
end Go.Proofs.YtodephhlhdbeoaaGreat
