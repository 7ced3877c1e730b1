/- Several texts, one behind the other: Widc Widd Wide. -/
import Derived.Shelf.SlSortCmp.Insertion1
import Derived.Shelf.SlSortCmp.NoneTotal
import Derived.Test.YtodephhlhdbeoaaGreatM9
import Derived.Test.YtodephhlhdbeoaaGreatM5
import Derived.Shelf.SlSortCmp.QuietGrown
namespace Go.Proofs.YtodephhlhdbeoaaGreat
open Go.RowKit Go.ChangeShapes Go.WideShapes Go.Shelf
set_option linter.unusedVariables false
set_option linter.unusedSimpArgs false
def so_ren : Go.Shelf.Ren := ⟨fun | 20 => 311 | n => n, fun | 0 => 0 | 3 => 3 | 4 => 4 | 22 => 43 | 24 => 3 | 25 => 261 | n => n, fun | n => n⟩
theorem so_lays : SlLaysF.n20 Tryz.prog so_ren := {
  mixed := by kernel_rfl
  f20 := ⟨"slices.insertionSortCmpFunc[int]", rfl, Tryz.func311.trans (congrArg some (by kernel_rfl))⟩
  t0 := Tryz.underlying0
  a0 := Tryz.isAgg0
  z0 := Tryz.sizeOf0
  v0 := Tryz.zeroValue0
  t3 := Tryz.underlying3
  a3 := Tryz.isAgg3
  z3 := Tryz.sizeOf3
  v3 := Tryz.zeroValue3
  t4 := Tryz.underlying4
  a4 := Tryz.isAgg4
  z4 := Tryz.sizeOf4
  v4 := Tryz.zeroValue4
  t22 := Tryz.underlying43
  a22 := Tryz.isAgg43
  z22 := Tryz.sizeOf43
  v22 := Tryz.zeroValue43
  a24 := Tryz.isAgg3
  z24 := Tryz.sizeOf3
  t25 := Tryz.underlying261
  a25 := Tryz.isAgg261
  z25 := Tryz.sizeOf261
  v25 := Tryz.zeroValue261 }
section
set_option maxHeartbeats 4000000
set_option maxRecDepth 100000
variable {α : Type} [Inhabited α]
theorem ins_any (enc : α → Value) (cf : α → α → Int) (g : Nat) (cb : Array Value) (blk off cap a b : Nat) (d0 d : Array α) (w0 w : World)
    (eg : ∀ args w, (callFunc g args).run Tryz.prog w = .ok (.enter g args) w) (hcmp : CmpLays1 Tryz.prog g cb enc cf blk off d0.size w0) (R : Row1 enc w0 blk off d0) (hs : d0.size = d.size) (S : SW enc w0 blk off d w) (hab : a ≤ b) (hb : b ≤ d.size) (hsz : d.size < 4611686018427387904) :
    Calls Tryz.prog 311 #[.slice (some ⟨blk, off, none⟩) d.size cap, .int .i64 a, .int .i64 b, .func (.func g) #[] cb] w fun e w' => e = .returned (.tuple #[]) ∧ SW enc w0 blk off (Sort.insertionSort (ltOf cf) d a b) w' :=
  Any.insertionSortCmpFunc_s so_lays enc cf g cb blk off cap a b d0 d w0 w eg hcmp R hs S hab hb hsz
theorem ins_none (p : Option Addr) (cap : Nat) (fv : Value) (w : World) :
    Calls Tryz.prog 311 #[.slice p 0 cap, .int .i64 0, .int .i64 0, fv] w fun e w' => e = .returned (.tuple #[]) ∧ w' = w :=
  AnyF.insertionSortCmpFunc_none { so_lays with } p cap fv w
theorem stable_any (enc : α → Value) (cf : α → α → Int) (g : Nat) (cb : Array Value) (blk off cap : Nat) (d : Array α) (w : World)
    (eg : ∀ args w, (callFunc g args).run Tryz.prog w = .ok (.enter g args) w) (hcmp : CmpLays1 Tryz.prog g cb enc cf blk off d.size w) (R : Row1 enc w blk off d) (h20 : d.size < 20) :
    Calls Tryz.prog 309 #[.slice (some ⟨blk, off, none⟩) d.size cap, .int .i64 d.size, .func (.func g) #[] cb] w fun e w' => e = .returned (.tuple #[]) ∧ SW enc w blk off (Sort.insertionSort (ltOf cf) d 0 d.size) w' := by
  have HI := Lib.hid (ins_any enc cf g cb blk off cap 0 d.size d d w w eg hcmp R rfl (SW.start R.hH) (Nat.zero_le _) (Nat.le_refl _) (by omega))
  clear eg hcmp R
  generalize d.size = n at *
  have hn : ¬ (20 : Int) ≤ n := by omega
  have hn2 : ¬ (20 : Int) < n := by omega
  go_enter Tryz.func309, Tryz.ntmps309
  go_upto_region 2 with fail
  refine wp_loop_rounds 1 ?_
  rw [rounds_succ]
  go_upto_region 6 with fail
  go_upto_region 7 with (go_at_call 311; refine HI.out.mono ?_; rintro e w1 ⟨rfl, hs⟩)
  refine wp_loop_rounds 1 ?_
  rw [rounds_succ]
  go_wp2
  go_end0
  exact ⟨rfl, hs⟩
theorem swp_size (d : Array α) (i j : Nat) : (Sort.swp d i j).size = d.size := by unfold Sort.swp; simp
theorem insInner_size (lt : α → α → Bool) (a : Nat) : ∀ (j : Nat) (d : Array α), (Sort.insInner lt a j d).size = d.size
  | 0, d => rfl
  | j + 1, d => by
    unfold Sort.insInner
    split
    · rw [insInner_size lt a j, swp_size]
    · rfl
theorem insOuter_size (lt : α → α → Bool) (a b : Nat) : ∀ (k i : Nat) (d : Array α), b - i ≤ k → (Sort.insOuter lt a b i d).size = d.size
  | 0, i, d, h => by
    unfold Sort.insOuter
    rw [if_neg (by omega)]
  | k + 1, i, d, h => by
    unfold Sort.insOuter
    split
    · rw [insOuter_size lt a b k (i + 1) _ (by omega), insInner_size]
    · rfl
theorem insertionSort_size (lt : α → α → Bool) (d : Array α) (a b : Nat) : (Sort.insertionSort lt d a b).size = d.size := insOuter_size lt a b b _ d (by omega)
theorem stable_20 (enc : α → Value) (cf : α → α → Int) (g : Nat) (cb : Array Value) (blk off cap : Nat) (d : Array α) (w : World)
    (eg : ∀ args w, (callFunc g args).run Tryz.prog w = .ok (.enter g args) w) (hcmp : CmpLays1 Tryz.prog g cb enc cf blk off d.size w) (R : Row1 enc w blk off d) (h20 : d.size = 20) :
    Calls Tryz.prog 309 #[.slice (some ⟨blk, off, none⟩) d.size cap, .int .i64 d.size, .func (.func g) #[] cb] w fun e w' => e = .returned (.tuple #[]) ∧ SW enc w blk off (Sort.insertionSort (ltOf cf) d 0 d.size) w' := by
  have HI := Lib.hid (ins_any enc cf g cb blk off cap 0 d.size d d w w eg hcmp R rfl (SW.start R.hH) (Nat.zero_le _) (Nat.le_refl _) (by omega))
  have HJ : Hid (∀ w', SW enc w blk off (Sort.insertionSort (ltOf cf) d 0 d.size) w' → Calls Tryz.prog 311 #[.slice (some ⟨blk, off, none⟩) d.size cap, .int .i64 d.size, .int .i64 d.size, .func (.func g) #[] cb] w' fun e w' => e = .returned (.tuple #[]) ∧ SW enc w blk off (Sort.insertionSort (ltOf cf) d 0 d.size) w') := Lib.hid (by
    intro w' hS
    have hz : (Sort.insertionSort (ltOf cf) d 0 d.size).size = d.size := insertionSort_size (ltOf cf) d 0 d.size
    have h := ins_any enc cf g cb blk off cap d.size d.size d (Sort.insertionSort (ltOf cf) d 0 d.size) w w' eg hcmp R hz.symm hS (Nat.le_refl _) (by rw [hz]; exact Nat.le_refl _) (by omega)
    have hi : Sort.insertionSort (ltOf cf) (Sort.insertionSort (ltOf cf) d 0 d.size) d.size d.size = Sort.insertionSort (ltOf cf) d 0 d.size := by
      generalize Sort.insertionSort (ltOf cf) d 0 d.size = d'
      unfold Sort.insertionSort Sort.insOuter
      rw [if_neg (by omega)]
    rw [hi, hz] at h
    exact h)
  clear eg hcmp R
  generalize Sort.insertionSort (ltOf cf) d 0 d.size = d' at *
  rw [h20] at *
  clear h20
  go_enter Tryz.func309, Tryz.ntmps309
  go_upto_region 2 with fail
  refine wp_loop_rounds 2 ?_
  rw [rounds_succ]
  go_upto_region 4 with (go_at_call 311; refine HI.out.mono ?_; rintro e w1 ⟨rfl, hs⟩)
  have HJ2 := Lib.hid (HJ.out _ hs)
  clear HJ
  go_wp2
  rw [rounds_succ]
  go_upto_region 6 with fail
  go_upto_region 7 with (go_at_call 311; refine HJ2.out.mono ?_; rintro e w2 ⟨rfl, hs2⟩)
  refine wp_loop_rounds 1 ?_
  rw [rounds_succ]
  go_wp2
  go_end0
  exact ⟨rfl, hs2⟩
theorem sorts_any (enc : α → Value) (cf : α → α → Int) (g : Nat) (cb : Array Value) (blk off cap : Nat) (d : Array α) (w : World)
    (eg : ∀ args w, (callFunc g args).run Tryz.prog w = .ok (.enter g args) w) (hcmp : CmpLays1 Tryz.prog g cb enc cf blk off d.size w) (R : Row1 enc w blk off d) (h20 : d.size ≤ 20) :
    Calls Tryz.prog 304 #[.slice (some ⟨blk, off, none⟩) d.size cap, .func (.func g) #[] cb] w fun e w' => e = .returned (.tuple #[]) ∧ SW enc w blk off (Sort.insertionSort (ltOf cf) d 0 d.size) w' := by
  have HI : Hid (Calls Tryz.prog 309 #[.slice (some ⟨blk, off, none⟩) d.size cap, .int .i64 d.size, .func (.func g) #[] cb] w fun e w' => e = .returned (.tuple #[]) ∧ SW enc w blk off (Sort.insertionSort (ltOf cf) d 0 d.size) w') := Lib.hid (by
    by_cases h : d.size < 20
    · exact stable_any enc cf g cb blk off cap d w eg hcmp R h
    · exact stable_20 enc cf g cb blk off cap d w eg hcmp R (by omega))
  clear eg hcmp R
  generalize d.size = n at *
  go_enter Tryz.func304, Tryz.ntmps304
  go_wp2_with (go_at_call 309; refine HI.out.mono ?_; rintro e w1 ⟨rfl, hs⟩)
  go_end0
  exact ⟨rfl, hs⟩
theorem stable_none (p : Option Addr) (cap : Nat) (fv : Value) (w : World) :
    Calls Tryz.prog 309 #[.slice p 0 cap, .int .i64 0, fv] w fun e w' => e = .returned (.tuple #[]) ∧ w = w' := by
  have HI := Lib.hid (ins_none p cap fv w)
  go_enter Tryz.func309, Tryz.ntmps309
  go_upto_region 2 with fail
  refine wp_loop_rounds 1 ?_
  rw [rounds_succ]
  go_upto_region 6 with fail
  go_upto_region 7 with (go_at_call 311; refine HI.out.mono ?_; rintro e w1 ⟨rfl, rfl⟩)
  refine wp_loop_rounds 1 ?_
  rw [rounds_succ]
  go_wp2
  go_end0
  exact ⟨rfl, rfl⟩
theorem sorts_none (p : Option Addr) (cap : Nat) (fv : Value) (w : World) :
    Calls Tryz.prog 304 #[.slice p 0 cap, fv] w fun e w' => e = .returned (.tuple #[]) ∧ w = w' := by
  have HI := Lib.hid (stable_none p cap fv w)
  go_enter Tryz.func304, Tryz.ntmps304
  go_wp2_with (go_at_call 309; refine HI.out.mono ?_; rintro e w1 ⟨rfl, rfl⟩)
  go_end0
  exact ⟨rfl, rfl⟩
end
abbrev FrcL := List (Int × Int)
structure FrcsAt (w : World) (A : Option Addr) (n c : Nat) (l : FrcL) : Prop where
  len : n = l.length
  cap : n ≤ c
  max : c ≤ maxLen
  at_ : ∀ i, i < l.length → ∃ g o, A = some ⟨g, o, none⟩ ∧ g < w.heap.size ∧ w.cell? ⟨g, o + i * 2, none⟩ = some (.int .i64 (l.getD i default).1) ∧ w.cell? ⟨g, o + i * 2 + 1, none⟩ = some (.int .i64 (l.getD i default).2)
theorem FrcsAt.far {S : Nat → Prop} {w w' : World} {A : Option Addr} {n c : Nat} {l : FrcL} (h : FrcsAt w A n c l) (ho : Only S w w') (hS : ∀ g o, A = some ⟨g, o, none⟩ → ¬ S g) : FrcsAt w' A n c l :=
  ⟨h.len, h.cap, h.max, fun i hi => by
    obtain ⟨g, o, e, hg, h0, h1⟩ := h.at_ i hi
    exact ⟨g, o, e, Nat.lt_of_lt_of_le hg ho.size, ho.cell h0 (hS g o e), ho.cell h1 (hS g o e)⟩⟩
theorem FrcsAt.keep {w w' : World} {A : Option Addr} {n c : Nat} {l : FrcL} (h : FrcsAt w A n c l) (ho : Only Non w w') : FrcsAt w' A n c l := h.far ho fun _ _ _ => id
def FrcsOk (l : FrcL) : Prop := ∀ i, i < l.length → FrcOk (l.getD i default).1 (l.getD i default).2
def IxRel (l : FrcL) (w : World) (i : Value) (wr : World) : Prop := ∃ k : Nat, k ≤ l.length ∧ i = .int .i64 k ∧ Grw w wr
section
set_option maxHeartbeats 4000000
set_option maxRecDepth 100000
theorem order1_any {t b : Int} (h : FrcOk t b) (w : World) : Calls Tryz.prog 302 #[.agg (frC t b)] w fun e w' => e = .returned (.bool false) ∧ Grw w w' := by
  have HR := Lib.hid (fun w => wright_any h w)
  go_enter Tryz.func302, Tryz.ntmps302
  go_upto_region 1 with fail
  have HB := Lib.hid (Box.fresh w 382 (frC t b))
  have HO := Lib.hid ((Grw.refl w).alloc (.cells (frC t b) 382))
  change Code.wp _ _ _ _ (w.alloc (.cells (frC t b) 382))
  generalize w.alloc (.cells (frC t b) 382) = W at *
  generalize w.heap.size = g at *
  go_wp2_with (first | (refine wpList_load_row rfl 382 _ rfl g rfl 382 (frC t b) (0, 0) _ HB.out Tryz.underlying382 rfl (by kernel_rfl) ?_) | (go_at_call 303; refine (HR.out _).mono ?_; rintro e W1 ⟨rfl, ho1⟩))
  go_ret
  exact ⟨rfl, HO.out.trans ho1⟩
theorem windex_any {A : Option Addr} {n c : Nat} {l : FrcL} (w : World) (h : FrcsAt w A n c l) (hok : FrcsOk l) (hn : l.length ≤ 100) :
    Calls Tryz.prog 307 #[.slice A n c, .func (.func 302) #[] #[]] w fun e w' => e = .returned (.int .i64 (-1)) ∧ Grw w w' := by
  obtain rfl := h.len
  have H := Lib.hid h
  have HOK := Lib.hid hok
  have HS := Lib.hid (show IxRel l w (.int .i64 0) w from ⟨0, Nat.zero_le _, rfl, Grw.refl w⟩)
  clear h hok
  go_enter Tryz.func307, Tryz.ntmps307
  go_upto_region 2 with fail
  go_loopw [8] (fun i wr => IxRel l w i wr) (fun i _ => l.length - (intOf i).toNat)
  case atStart => exact HS.out
  case round =>
    clear HS
    obtain ⟨k, hk, rfl, hg⟩ := hrel
    have HG := Lib.hid hg
    clear hg
    by_cases hlt : k < l.length
    · obtain ⟨g, o, rfl, hgl, x0, x1⟩ := (H.out.keep HG.out.only).at_ k hlt
      have HF := Lib.hid (HOK.out k hlt)
      generalize (l.getD k default).1 = t at *
      generalize (l.getD k default).2 = b at *
      have hlti : (k : Int) < l.length := by omega
      have HLT := Lib.hid hlt
      clear hlt hk
      have HC := Lib.hid (fun w => order1_any HF.out w)
      go_wp2_with (go_at_call 302; refine (HC.out _).mono ?_; rintro e W1 ⟨rfl, ho1⟩)
      go_roundw
      case rel => exact ⟨k + 1, HLT.out, by go_num, HG.out.trans ho1⟩
      case measure => simp [intOf]; have := HLT.out; omega
    · obtain rfl : k = l.length := by omega
      clear hlt hk
      go_wp2_with fail
      go_ret
      exact ⟨rfl, HG.out⟩
theorem wcontains_any {A : Option Addr} {n c : Nat} {l : FrcL} (w : World) (h : FrcsAt w A n c l) (hok : FrcsOk l) (hn : l.length ≤ 100) :
    Calls Tryz.prog 301 #[.slice A n c, .func (.func 302) #[] #[]] w fun e w' => e = .returned (.bool false) ∧ Grw w w' := by
  have HI := Lib.hid (windex_any w h hok hn)
  clear h hok
  go_enter Tryz.func301, Tryz.ntmps301
  go_wp2_with (go_at_call 307; refine HI.out.mono ?_; rintro e W1 ⟨rfl, ho1⟩)
  go_ret
  exact ⟨rfl, ho1⟩
end
def frcCmp (l : FrcL) (i k : Nat) : Int := cmpZ ((l.getD k default).1 * (l.getD i default).2) ((l.getD i default).1 * (l.getD k default).2)
section
set_option maxHeartbeats 4000000
set_option maxRecDepth 100000
theorem order2_any {A : Option Addr} {n c bx i k : Nat} {l : FrcL} (w : World) (hx : w.cell? ⟨bx, 0, none⟩ = some (.slice A n c)) (hbx : bx < w.heap.size) (h : FrcsAt w A n c l) (hok : FrcsOk l) (hi : i < l.length) (hk : k < l.length) (hn : l.length ≤ 100) :
    Calls Tryz.prog 305 #[.int .i64 i, .int .i64 k, .pointer (some ⟨bx, 0, none⟩)] w fun e w' => e = .returned (.int .i64 (frcCmp l i k)) ∧ Grw w w' := by
  obtain ⟨g, o, rfl, hg, x0, x1⟩ := h.at_ i hi
  obtain ⟨g', o', e', hg', y0, y1⟩ := h.at_ k hk
  injection e' with e'; injection e' with e1 e2
  subst e1 e2
  obtain rfl := h.len
  have HF1 := hok i hi
  have HF2 := hok k hk
  unfold frcCmp
  generalize (l.getD i default).1 = t at *
  generalize (l.getD i default).2 = b at *
  generalize (l.getD k default).1 = t' at *
  generalize (l.getD k default).2 = b' at *
  have HC : Hid (∀ n os, Calls Tryz.prog 306 #[.agg #[.int .i64 t', .int .i64 b'], .agg #[.int .i64 t, .int .i64 b]] (Sort.grow (w.drewN n) os) fun e w' => e = .returned (.tuple #[.int .i64 (cmpZ (t' * b) (t * b')), .int .i64 0]) ∧ ∃ q os', w' = Sort.grow ((Sort.grow (w.drewN n) os).drewN q) os') := Lib.hid fun n os => compare_any HF2 HF1 _
  have hcl := fun {a : Addr} {v : Value} (hb : a.block < w.heap.size) (hc : w.cell? a = some v) => cell_grown hb hc
  have cx := hcl hbx hx
  have cx0 := hcl hg x0
  have cx1 := hcl hg x1
  have cy0 := hcl hg y0
  have cy1 := hcl hg y1
  clear hx hbx h hok x0 x1 y0 y1 HF1 HF2 hg hg'
  have hii : (i : Int) < l.length := by omega
  have hki : (k : Int) < l.length := by omega
  clear hcl
  go_enter Tryz.func305, Tryz.ntmps305
  go_upto_region 1 with fail
  have mixed : Tryz.prog.follows .mixedOrders = true := by kernel_rfl
  go_quiet_grown (first | (go_at_call 306; refine Calls.grown_of (HC.out _ _)))
  go_wp2
  go_ret
  exact ⟨rfl, _, _, rfl⟩
end
end Go.Proofs.YtodephhlhdbeoaaGreat
