/- replay.Get. Printed by getc.py. -/
import Derived.Test.YtaofjnpmnaohcaaRdrL
import Derived.Test.YtaofjnpmnaohcaaRdrB
namespace Go.Proofs.Ytaofjnpmnaohcaa
open Go.RowKit
set_option linter.unusedVariables false
set_option linter.unusedSimpArgs false
def z18 : Array Value := #[.int .i64 0, .int .i64 0, .int .i64 0, .int .i64 0, .int .i64 0, .int .i64 0, .int .i64 0, .int .i64 0, .int .i64 0, .int .i64 0, .int .i64 0, .int .i64 0, .int .i64 0, .int .i64 0, .int .i64 0, .int .i64 0, .slice none 0 0, .slice none 0 0]
theorem z18_one : z18.all (·.oneCell') = true := by simp [z18, Value.oneCell']
def aCells (a : ActR) (v : Value) : List Value := [.int .i64 a.kind, .int .i64 a.a, .int .i64 a.b, .int .i64 a.n, v]
/-- a row of acts of the call's own, with their data -/
structure AcRow (base : Nat) (w : World) (ls : Value) (L : List (ActR × Value)) : Prop where
  row : w.ownsRow base 47 5 ls L.length (L.flatMap fun p => aCells p.1 p.2)
  data : ∀ p ∈ L, Row 5 w p.2 (bytes p.1.data) ∧ p.1.data.length ≤ 64 ∧ ∀ k, ownB p.2 k → base ≤ k
theorem AcRow.nil (base : Nat) (w : World) : AcRow base w (.slice none 0 0) [] := ⟨World.ownsRow_nil _ _ _ _, fun _ h => by cases h⟩
theorem AcRow.box {base : Nat} {w : World} {ls : Value} {L : List (ActR × Value)} (h : AcRow base w ls L) {g : Nat} (hg : ownB ls g) : ∃ cs, Box w g 47 cs := by
  rcases h.row.2 with ⟨e, _⟩ | ⟨g2, cap, cur, e, _, hg2, _⟩
  · rw [e] at hg; exact (ownB_none hg).elim
  · rw [e] at hg
    have : g2 = g := ownB_slice.1 hg
    subst this
    exact ⟨cur, hg2⟩
theorem AcRow.off {base : Nat} {w : World} {ls : Value} {L : List (ActR × Value)} (h : AcRow base w ls L) {g : Nat} {t : TypeId} {cs : Array Value} (hb : Box w g t cs) (ht : t ≠ 47) : ¬ ownB ls g := fun hg => by
  obtain ⟨cs', h'⟩ := h.box hg
  exact ht (hb.same h').1
theorem AcRow.doff {base : Nat} {w : World} {ls : Value} {L : List (ActR × Value)} (h : AcRow base w ls L) {p : ActR × Value} (hp : p ∈ L) {g : Nat} {t : TypeId} {cs : Array Value} (hb : Box w g t cs) (ht : t ≠ 5) : ¬ ownB p.2 g := fun hg => by
  obtain ⟨cs', h'⟩ := (h.data p hp).1.box hg
  exact ht (hb.same h').1
theorem AcRow.only {S : Nat → Prop} {base : Nat} {w w' : World} {ls : Value} {L : List (ActR × Value)} (h : AcRow base w ls L) (ho : Only S w w') (h1 : ∀ g, ownB ls g → ¬ S g) (h2 : ∀ p ∈ L, ∀ g, ownB p.2 g → ¬ S g) : AcRow base w' ls L :=
  ⟨ownsRow_only h.row ho h1, fun p hp => ⟨(h.data p hp).1.only ho (h2 p hp), (h.data p hp).2⟩⟩
theorem AcRow.keep {base : Nat} {w w' : World} {ls : Value} {L : List (ActR × Value)} (h : AcRow base w ls L) (ho : Only Non w w') : AcRow base w' ls L := h.only ho (fun _ _ => id) fun _ _ _ _ => id
theorem AcRow.at {base : Nat} {w : World} {ls : Value} {L : List (ActR × Value)} (h : AcRow base w ls L) : ∃ A c, ls = .slice A L.length c ∧ ActsAt w A L.length c (L.map Prod.fst) := by
  rcases h.row.2 with ⟨e, h0⟩ | ⟨g, cap, cur, e, hb, hg, hn, hm, hs, ht⟩
  · rw [h0]
    refine ⟨none, 0, e, by rw [List.length_map]; exact h0.symm, Nat.le_refl _, Nat.zero_le _, fun i hi => ?_⟩
    rw [List.length_map] at hi
    omega
  · refine ⟨some ⟨g, 0, none⟩, cap, e, by rw [List.length_map], hn, hm, fun i hi => ?_⟩
    rw [List.length_map] at hi
    have hc := fun j (hj : j < 5) u (hu : (aCells (L.getD i default).1 (L.getD i default).2)[j]? = some u) => h.row.cells (g := g) (by rw [e]; rfl) (i * 5 + j) u (by rw [flat_at (fun p : ActR × Value => aCells p.1 p.2) 5 default (fun _ => rfl) L i j hi hj]; exact hu)
    simp only [Addr.add_lit, Nat.zero_add] at hc
    have hmem : L.getD i default ∈ L := by simp [List.getD, hi]
    have hd := h.data _ hmem
    obtain ⟨dA, dc, ev, _, _⟩ := hd.1.shape
    rw [bytes_len] at ev
    have hget : (L.map Prod.fst).getD i default = (L.getD i default).1 := by simp [List.getD, hi]
    rw [hget]
    refine ⟨g, 0, dA, dc, rfl, (Array.getElem?_eq_some_iff.1 hg).1, ?_, ?_, ?_, ?_, ?_, ?_⟩
    · have := hc 0 (by decide) _ rfl; simpa using this
    · have := hc 1 (by decide) _ rfl; simpa using this
    · have := hc 2 (by decide) _ rfl; simpa using this
    · have := hc 3 (by decide) _ rfl; simpa using this
    · have := hc 4 (by decide) _ rfl; rw [ev] at this; simpa using this
    · rw [← ev]; exact hd.1.byt (by have := hd.2.1; omega)
theorem actInfo : (Try.prog.info? 47).map (fun i => (i.zero, i.size, i.bytes)) = some (some (.agg #[.int .i64 0, .int .i64 0, .int .i64 0, .int .i64 0, .slice none 0 0]), 5, 56) := by kernel_rfl
def putL (cs : Array Value) : Nat → List Value → Array Value
  | _, [] => cs
  | o, v :: r => putL (cs.setIfInBounds o v) (o + 1) r
theorem Box.setCells {g : Nat} {t : TypeId} : ∀ (vs : List Value) (o : Nat) (cs : Array Value) (w : World), Box w g t cs → Box (w.setCells g o vs) g t (putL cs o vs)
  | [], _, _, _, h => h
  | v :: r, o, cs, w, h => Box.setCells r (o + 1) _ _ (h.store o v)
theorem Only.setCells {S : Nat → Prop} {a : World} {g : Nat} (hg : S g ∨ a.heap.size ≤ g) : ∀ (vs : List Value) (o : Nat) (w : World), Only S a w → Only S a (w.setCells g o vs)
  | [], _, _, h => h
  | v :: r, o, w, h => Only.setCells hg r (o + 1) _ (h.setCell (p := ⟨g, o, none⟩) hg v)
theorem put_cfg (c : CfgA) (hs : Value) : putL z18 0 (cfgCells c hs).toList = scrCells c hs (.slice none 0 0) := by
  simp only [cfgCells, z18, scrCells, putL, List.setIfInBounds_toArray, List.set_cons_zero, List.set_cons_succ]
theorem z18_there {w : World} {g : Nat} (h : Box w g 34 z18) : w.there g 0 17 := fun j hj => by
  have hz : z18.size = 18 := rfl
  refine ⟨?_, h.free _⟩
  rw [Nat.zero_add, h.cell j, Array.getElem?_eq_getElem (by rw [hz]; omega)]
  rfl
def sgS (b : List Int) (q : Nat × Int) : Nat → Nat × Int
  | 0 => q
  | k + 1 => ((stSgn b (sgS b q k).1 (sgS b q k).2).2.1, (stSgn b (sgS b q k).1 (sgS b q k).2).2.2)
def sgV (b : List Int) (q : Nat × Int) (k : Nat) : Int := (stSgn b (sgS b q k).1 (sgS b q k).2).1
theorem sgS_le {b : List Int} {q : Nat × Int} (hq : q.2 = 0 → q.1 ≤ b.length) : ∀ k, (sgS b q k).2 = 0 → (sgS b q k).1 ≤ b.length
  | 0, h => hq h
  | k + 1, h => stSgn_le (sgS_le hq k) h
def acC (K : Nat) (b : List Int) (q : Nat × Int) (k : Nat) : Array Value := #[.int .i64 (K : Nat), .int .i64 (if 0 < k then sgV b q 0 else 0), .int .i64 (if 1 < k then sgV b q 1 else 0), .int .i64 (if 2 < k then sgV b q 2 else 0), .slice none 0 0]
theorem acC_step (K : Nat) (b : List Int) (q : Nat × Int) {k : Nat} (hk : k < 3) : (acC K b q k).setIfInBounds (1 + k) (.int .i64 (sgV b q k)) = acC K b q (k + 1) := by
  rcases (show k = 0 ∨ k = 1 ∨ k = 2 from by omega) with rfl | rfl | rfl <;> rfl
theorem acC_some (K : Nat) (b : List Int) (q : Nat × Int) (j : Nat) {k : Nat} (hk : k < 3) : ∃ u, (acC K b q j)[1 + k]? = some u := by
  rcases (show k = 0 ∨ k = 1 ∨ k = 2 from by omega) with rfl | rfl | rfl <;> exact ⟨_, rfl⟩
theorem aptr_at (ab : Nat) {k : Nat} (hk : k < 3) : (#[Value.pointer (some ⟨ab, 1, none⟩), .pointer (some ⟨ab, 2, none⟩), .pointer (some ⟨ab, 3, none⟩)] : Array Value)[k]? = some (.pointer (some ⟨ab, 1 + k, none⟩)) := by
  rcases (show k = 0 ∨ k = 1 ∨ k = 2 from by omega) with rfl | rfl | rfl <;> rfl
def S2 (rd ab : Nat) : Nat → Prop := fun x => x = rd ∨ x = ab
def I0 (rd ab : Nat) (A : Option Addr) (cp : Nat) (b : List Int) (p : Nat) (W : World) (k : Nat) (wr : World) : Prop :=
  (if k = 0 then Box wr ab 47 (acC 0 b (0, 0) 0) ∧ RdAt wr rd A cp b p 0 else Box wr ab 47 (acC (stNum b p 0).1 b (0, 0) 0) ∧ RdAt wr rd A cp b (stNum b p 0).2.1 (stNum b p 0).2.2) ∧ Only (S2 rd ab) W wr
def I1 (rd ab : Nat) (A : Option Addr) (cp : Nat) (b : List Int) (K : Nat) (q : Nat × Int) (W : World) (k : Nat) (wr : World) : Prop :=
  Box wr ab 47 (acC K b q k) ∧ RdAt wr rd A cp b (sgS b q k).1 (sgS b q k).2 ∧ Only (S2 rd ab) W wr
/-- one number into an act's kind -/
theorem into0_any (rd ab pb : Nat) (A : Option Addr) (cp : Nat) (b : List Int) (p : Nat) (W : World) (hby : Byt W (.slice A b.length cp) b) (hnb : ∀ k, ownB (.slice A b.length cp) k → k ≠ rd ∧ k ≠ ab) (hp : p ≤ b.length) (hb : IsB b) (hne : rd ≠ ab) (hpr : pb ≠ rd) (hpa : pb ≠ ab)
    (hbx : Box W ab 47 (acC 0 b (0, 0) 0)) (hrd : RdAt W rd A cp b p 0) (hpt : Box W pb 64 #[.pointer (some ⟨ab, 0, none⟩)]) :
    Calls Try.prog 27 #[.func (.func 26) #[.pointer (some ⟨rd, 0, none⟩)] #[], .slice (some ⟨pb, 0, none⟩) 1 1] W fun e w' => e = .returned (.tuple #[]) ∧ I0 rd ab A cp b p W 1 w' := by
  refine into_num rd 1 1 (some ⟨pb, 0, none⟩) (fun _ => ab) (fun k => k) (I0 rd ab A cp b p W) W (by decide) ⟨by rw [if_pos rfl]; exact ⟨hbx, hrd⟩, Only.refl _ _⟩ (fun k wr hk hi => ?_)
  obtain rfl : k = 0 := by omega
  obtain ⟨hi1, ho⟩ := hi
  rw [if_pos rfl] at hi1
  refine ⟨⟨_, _, rfl, (ho.box hpt (show ¬ (pb = rd ∨ pb = ab) by omega)).cellAt rfl⟩, ?_⟩
  refine (rnum_any rd A cp b p 0 wr hi1.2 (hby.only ho fun k hk hs => (show k = rd ∨ k = ab from hs).elim (hnb k hk).1 (hnb k hk).2) (fun _ => hp) hb).mono ?_
  rintro e w1 ⟨rfl, hr1, ho1⟩
  have hb1 := ho1.box hi1.1 (show ¬ ab = rd from fun h => hne h.symm)
  refine ⟨_, rfl, ⟨_, hb1.cellAt rfl⟩, hb1.free 0, ?_, (ho.trans' ho1 fun k hk => .inl (.inl hk)).setCell (p := ⟨ab, 0, none⟩) (.inl (.inr rfl)) _⟩
  rw [if_neg (by decide)]
  exact ⟨hb1.store 0 _, hr1.far (p := ⟨ab, 0, none⟩) hne _⟩
theorem into1_any (rd ab pb : Nat) (A : Option Addr) (cp : Nat) (b : List Int) (K : Nat) (q : Nat × Int) (W : World) (hby : Byt W (.slice A b.length cp) b) (hnb : ∀ k, ownB (.slice A b.length cp) k → k ≠ rd ∧ k ≠ ab) (hq : q.2 = 0 → q.1 ≤ b.length) (hb : IsB b) (hne : rd ≠ ab) (hpr : pb ≠ rd) (hpa : pb ≠ ab)
    (hbx : Box W ab 47 (acC K b q 0)) (hrd : RdAt W rd A cp b q.1 q.2) (hpt : Box W pb 64 #[.pointer (some ⟨ab, 1, none⟩), .pointer (some ⟨ab, 2, none⟩), .pointer (some ⟨ab, 3, none⟩)]) :
    Calls Try.prog 27 #[.func (.func 28) #[.pointer (some ⟨rd, 0, none⟩)] #[], .slice (some ⟨pb, 0, none⟩) 3 3] W fun e w' => e = .returned (.tuple #[]) ∧ I1 rd ab A cp b K q W 3 w' := by
  refine into_sgn rd 3 3 (some ⟨pb, 0, none⟩) (fun _ => ab) (fun k => 1 + k) (I1 rd ab A cp b K q W) W (by decide) ⟨hbx, hrd, Only.refl _ _⟩ (fun k wr hk hi => ?_)
  obtain ⟨hi1, hi2, ho⟩ := hi
  refine ⟨⟨_, _, rfl, by rw [Nat.zero_add]; exact (ho.box hpt (show ¬ (pb = rd ∨ pb = ab) by omega)).cellAt (aptr_at ab hk)⟩, ?_⟩
  refine (rsgn_any rd A cp b _ _ wr hi2 (hby.only ho fun k hk hs => (show k = rd ∨ k = ab from hs).elim (hnb k hk).1 (hnb k hk).2) (sgS_le hq k) hb).mono ?_
  rintro e w1 ⟨rfl, hr1, ho1⟩
  have hb1 := ho1.box hi1 (show ¬ ab = rd from fun h => hne h.symm)
  obtain ⟨u, hu⟩ := acC_some K b q k hk
  refine ⟨_, rfl, ⟨u, hb1.cellAt hu⟩, hb1.free _, ?_, hr1.far (p := ⟨ab, 1 + k, none⟩) hne _, (ho.trans' ho1 fun k hk => .inl (.inl hk)).setCell (p := ⟨ab, 1 + k, none⟩) (.inl (.inr rfl)) _⟩
  rw [← acC_step K b q hk]
  exact hb1.store (1 + k) _
theorem AcRow.push {base : Nat} {w w' : World} {ls ls' v : Value} {L : List (ActR × Value)} {a : ActR} (h : AcRow base w ls L) (hv : Row 5 w v (bytes a.data)) (h64 : a.data.length ≤ 64) (hvo : ∀ k, ownB v k → base ≤ k)
    (hown : w'.ownsRow base 47 5 ls' (L.length + 1) (L.flatMap (fun p => aCells p.1 p.2) ++ aCells a v)) (ho : Only (ownB ls) w w') : AcRow base w' ls' (L ++ [(a, v)]) := by
  refine ⟨by rw [List.length_append, List.flatMap_append]; simpa using hown, fun p hp => ?_⟩
  rcases List.mem_append.1 hp with hp | hp
  · refine ⟨(h.data p hp).1.only ho fun g hg hl => ?_, (h.data p hp).2⟩
    obtain ⟨cs, hb⟩ := h.box hl
    exact h.doff hp hb (by decide) hg
  · obtain rfl : p = (a, v) := by simpa using hp
    refine ⟨hv.only ho fun g hg hl => ?_, h64, hvo⟩
    obtain ⟨cs, hb⟩ := h.box hl
    obtain ⟨cs', hb'⟩ := hv.box hg
    exact absurd (hb.same hb').1 (by decide)
theorem HintsAt.off {S : Nat → Prop} {w w' : World} {A : Option Addr} {n c : Nat} {l : List HintA} (h : HintsAt w A n c l) (ho : Only S w w') (hS : ∀ k, ownB (.slice A n c) k → ¬ S k) : HintsAt w' A n c l :=
  ⟨h.len, h.cap, h.max, fun i hi => by
    obtain ⟨g, o, e, hg, h0, h1, h2, h3⟩ := h.at_ i hi
    have hn := hS g (by rw [e]; exact ownB_slice.2 rfl)
    exact ⟨g, o, e, Nat.lt_of_lt_of_le hg ho.size, ho.cell h0 hn, ho.cell h1 hn, ho.cell h2 hn, ho.cell h3 hn⟩⟩
def GetOut (c : CfgA) (b : List Int) (nn j1 : Nat) (w : World) (e : Ending) (w' : World) : Prop :=
  ((∃ x, actsR nn b j1 = .error x ∧ e = .returned (.tuple #[.agg z18, .int .i64 x])) ∨
    (∃ l q, actsR nn b j1 = .ok (l, q) ∧ ((q < b.length ∧ e = .returned (.tuple #[.agg z18, .int .i64 2])) ∨
      (b.length ≤ q ∧ ∃ B m cb D cd, e = .returned (.tuple #[.agg (scrCells c (.slice B m cb) (.slice D l.length cd)), .int .i64 0]) ∧ HintsAt w' B m cb c.h ∧ ActsAt w' D l.length cd l)))) ∧ Only Non w w'
def GRel (c : CfgA) (b : List Int) (nn j1 : Nat) (A : Option Addr) (cp rd sb rb base : Nat) (B : Option Addr) (m cb : Nat) (w : World) (wrong i : Value) (wr : World) : Prop :=
  ∃ (k : Nat) (L : List (ActR × Value)) (p : Nat) (ls : Value), k ≤ nn ∧ i = .int .i64 k ∧ wrong = .bool false ∧ actsR k b j1 = .ok (L.map Prod.fst, p) ∧ p ≤ b.length ∧ RdAt wr rd A cp b p 0 ∧ Box wr sb 34 (scrCells c (.slice B m cb) ls) ∧ AcRow base wr ls L ∧ Box wr rb 34 z18 ∧ HintsAt wr B m cb c.h ∧ Only Non w wr ∧ base ≤ wr.heap.size
section
set_option maxHeartbeats 4000000
set_option maxRecDepth 100000
theorem get25_short (A : Option Addr) (n cp : Nat) (b : List Int) (x : Int) (w : World) (hby : Byt w (.slice A n cp) b) (hb : IsB b) (ht : textR 400 b 0 = .error x) :
    Calls Try.prog 10 #[.slice A n cp] w fun e w' => e = .returned (.tuple #[.agg z18, .int .i64 x]) ∧ Only Non w w' := by
  have hnl := hby.len.1
  subst hnl
  have Hby := Lib.hid hby
  have HBs := Lib.hid hb
  have Hst := Lib.hid (stTxt_err ht)
  have hx : (x != 0) = true := by simpa using textR_ne ht
  clear hby hb ht
  go_enter Try.func10, Try.ntmps10
  go_upto_region 2 with fail
  have HRB1 := Lib.hid ((Box.fresh w 34 z18).alloc (.cells #[.slice A b.length cp, .int .i64 0, .int .i64 0] 59))
  have HRD1 := Lib.hid (show RdAt ((w.alloc (.cells z18 34)).alloc (.cells #[.slice A b.length cp, .int .i64 0, .int .i64 0] 59)) (w.heap.size + 1) A cp b 0 0 from by
    have := Box.fresh (w.alloc (.cells z18 34)) 59 #[.slice A b.length cp, .int .i64 0, .int .i64 0]
    rwa [show (w.alloc (.cells z18 34)).heap.size = w.heap.size + 1 from World.size_alloc _ _] at this)
  have HO1 := Lib.hid (show Only Non w ((w.alloc (.cells z18 34)).alloc (.cells #[.slice A b.length cp, .int .i64 0, .int .i64 0] 59)) from ((Only.refl Non w).alloc _).alloc _)
  change Code.wp _ _ _ _ ((w.alloc (.cells z18 34)).alloc (.cells #[.slice A b.length cp, .int .i64 0, .int .i64 0] 59))
  generalize (w.alloc (.cells z18 34)).alloc (.cells #[.slice A b.length cp, .int .i64 0, .int .i64 0] 59) = W1 at *
  have Hrr := Lib.hid (show ¬ w.heap.size + 1 = w.heap.size by omega)
  have Hrd1 := Lib.hid (show w.heap.size ≤ w.heap.size + 1 by omega)
  generalize hrd : w.heap.size + 1 = rd at *
  clear hrd
  generalize hrb : w.heap.size = rb at *
  have Hrb := Lib.hid hrb
  clear hrb
  have HT := Lib.hid (rtxt_any rd A cp b 0 400 0 W1 HRD1.out (Hby.out.only HO1.out fun _ _ => id) (fun _ => Nat.zero_le _) HBs.out)
  rw [Hst.out] at HT
  go_wp2_with fail
  refine HT.out.mono ?_
  rintro e w2 ⟨v2, rfl, hrow2, hrd2, ho2, hown2⟩
  have HRD2 := Lib.hid hrd2
  have HRB2 := Lib.hid (ho2.box HRB1.out (fun e => Hrr.out e.symm))
  have HO2 := Lib.hid (HO1.out.trans' ho2 fun k hk => .inr (by rw [Hrb.out, hk]; exact Hrd1.out))
  clear hrow2 hrd2 ho2 hown2
  have x2 : w2.cell? ⟨rd, 2, none⟩ = some (.int .i64 x) := HRD2.out.cellAt rfl
  go_upto_region 4 with fail
  have i2 : w2.drew.cell? ⟨rd, 2, none⟩ = some (.int .i64 x) := HRD2.out.cellAt rfl
  refine wp_region_tail (S := (fun w' : World => w'.cell? ⟨rd, 2, none⟩ = some (.int .i64 x))) 6 (by kernel_rfl) (by kernel_rfl) ?_ ?_
  · first | exact i3 | exact i2 | assumption
  intro hSS
  refine wpHd_take (i := 0) (v := ?_) (by kernel_rfl) rfl (by kernel_rfl) (fun _ _ _ h => h) (Or.inl ⟨by rfl, ?_⟩) (by assumption) ?_
  rotate_left
  · intro w hSw; (try dsimp only at hSw); go_simp; (try with_reducible rfl)
  try simp only [Act.put, List.getElem_toArray, List.getElem_cons_succ, List.getElem_cons_zero, List.setIfInBounds_toArray, List.set_cons_zero, List.set_cons_succ]
  refine wpHd_take (i := 1) (v := ?_) (by kernel_rfl) rfl (by kernel_rfl) (fun _ _ _ h => h) (Or.inl ⟨by rfl, ?_⟩) (by assumption) ?_
  rotate_left
  · intro w hSw; (try dsimp only at hSw); go_simp; (try with_reducible rfl)
  try simp only [Act.put, List.getElem_toArray, List.getElem_cons_succ, List.getElem_cons_zero, List.setIfInBounds_toArray, List.set_cons_zero, List.set_cons_succ]
  refine wpHd_take (i := 2) (v := ?_) (by kernel_rfl) rfl (by kernel_rfl) (fun _ _ _ h => h) (Or.inl ⟨by rfl, ?_⟩) (by assumption) ?_
  rotate_left
  · intro w hSw; (try dsimp only at hSw); go_simp; (try with_reducible rfl)
  try simp only [Act.put, List.getElem_toArray, List.getElem_cons_succ, List.getElem_cons_zero, List.setIfInBounds_toArray, List.set_cons_zero, List.set_cons_succ]
  refine wpHd_take (i := 3) (v := ?_) (by kernel_rfl) rfl (by kernel_rfl) (fun _ _ _ h => h) (Or.inl ⟨by rfl, ?_⟩) (by assumption) ?_
  rotate_left
  · intro w hSw; (try dsimp only at hSw); go_simp; (try with_reducible rfl)
  try simp only [Act.put, List.getElem_toArray, List.getElem_cons_succ, List.getElem_cons_zero, List.setIfInBounds_toArray, List.set_cons_zero, List.set_cons_succ]
  refine wpHd_take (i := 4) (v := ?_) (by kernel_rfl) rfl (by kernel_rfl) (fun _ _ _ h => h) (Or.inl ⟨by rfl, ?_⟩) (by assumption) ?_
  rotate_left
  · intro w hSw; (try dsimp only at hSw); go_simp; (try with_reducible rfl)
  try simp only [Act.put, List.getElem_toArray, List.getElem_cons_succ, List.getElem_cons_zero, List.setIfInBounds_toArray, List.set_cons_zero, List.set_cons_succ]
  refine wpHd_one (i := 5) rfl (by kernel_rfl) (fun K hK => ?_)
  refine wp_store_row 34 _ _ rfl rb z18 rfl rfl 34 _ (show Box w2.drew rb _ z18 from HRB2.out) (by kernel_rfl) rfl z18_one ?_
  have i3 := ((Only.refl (Just rb) w2.drew).setRow (g := rb) (.inl rfl) z18).cell i2 (show ¬ rd = rb from Hrr.out)
  refine hK.out _ _ ?_ (fun hSS => ?_)
  · first | exact i3 | exact i2 | assumption
  clear hK
  try simp only [Act.put, List.getElem_toArray, List.getElem_cons_succ, List.getElem_cons_zero, List.setIfInBounds_toArray, List.set_cons_zero, List.set_cons_succ]
  refine wpHd_end (by kernel_rfl) ?_
  clear hSS
  go_wp2_with fail
  (try simp only [Exit.inBlock, Exit.then])
  refine bodyPost_ret (results_row_tmp rfl _ _ rb _ _ _ rfl ((show Box w2.drew rb _ z18 from HRB2.out).setRow _) Try.underlying34 rfl (by kernel_rfl)) rfl ?_
  exact ⟨rfl, (HO2.out.drew).setRow (.inr (by rw [Hrb.out]; exact Nat.le_refl _)) _⟩
theorem get25_num (A : Option Addr) (n cp : Nat) (b : List Int) (c : CfgA) (j0 : Nat) (x : Int) (w : World) (hby : Byt w (.slice A n cp) b) (hb : IsB b) (ht : textR 400 b 0 = .ok (confB c, j0)) (hc : CfgP c) (hn : numR b j0 = .error x) :
    Calls Try.prog 10 #[.slice A n cp] w fun e w' => e = .returned (.tuple #[.agg z18, .int .i64 x]) ∧ Only Non w w' := by
  have hnl := hby.len.1
  subst hnl
  have Hby := Lib.hid hby
  have HBs := Lib.hid hb
  have HC := Lib.hid hc
  have Hst := Lib.hid (stTxt_ok ht)
  have Hj0 := Lib.hid (textR_le (Nat.zero_le _) ht)
  have Hsn := Lib.hid (stNum_err hn)
  have hx : (x != 0) = true := by simpa using numR_ne hn
  clear hby hb ht hc hn
  go_enter Try.func10, Try.ntmps10
  go_upto_region 2 with fail
  have HRB1 := Lib.hid ((Box.fresh w 34 z18).alloc (.cells #[.slice A b.length cp, .int .i64 0, .int .i64 0] 59))
  have HRD1 := Lib.hid (show RdAt ((w.alloc (.cells z18 34)).alloc (.cells #[.slice A b.length cp, .int .i64 0, .int .i64 0] 59)) (w.heap.size + 1) A cp b 0 0 from by
    have := Box.fresh (w.alloc (.cells z18 34)) 59 #[.slice A b.length cp, .int .i64 0, .int .i64 0]
    rwa [show (w.alloc (.cells z18 34)).heap.size = w.heap.size + 1 from World.size_alloc _ _] at this)
  have HO1 := Lib.hid (show Only Non w ((w.alloc (.cells z18 34)).alloc (.cells #[.slice A b.length cp, .int .i64 0, .int .i64 0] 59)) from ((Only.refl Non w).alloc _).alloc _)
  change Code.wp _ _ _ _ ((w.alloc (.cells z18 34)).alloc (.cells #[.slice A b.length cp, .int .i64 0, .int .i64 0] 59))
  generalize (w.alloc (.cells z18 34)).alloc (.cells #[.slice A b.length cp, .int .i64 0, .int .i64 0] 59) = W1 at *
  have Hrr := Lib.hid (show ¬ w.heap.size + 1 = w.heap.size by omega)
  have Hrd1 := Lib.hid (show w.heap.size ≤ w.heap.size + 1 by omega)
  generalize hrd : w.heap.size + 1 = rd at *
  clear hrd
  generalize hrb : w.heap.size = rb at *
  have Hrb := Lib.hid hrb
  clear hrb
  have HT := Lib.hid (rtxt_any rd A cp b 0 400 0 W1 HRD1.out (Hby.out.only HO1.out fun _ _ => id) (fun _ => Nat.zero_le _) HBs.out)
  rw [Hst.out] at HT
  go_wp2_with fail
  refine HT.out.mono ?_
  rintro e w2 ⟨v2, rfl, hrow2, hrd2, ho2, hown2⟩
  have HRD2 := Lib.hid hrd2
  have HRB2 := Lib.hid (ho2.box HRB1.out (fun e => Hrr.out e.symm))
  have HO2 := Lib.hid (HO1.out.trans' ho2 fun k hk => .inr (by rw [Hrb.out, hk]; exact Hrd1.out))
  have hby2 := hrow2.byt (by have := confB_len c HC.out.hs.2.2; omega)
  obtain ⟨A5, c5, e5, _, _⟩ := hrow2.shape
  rw [bytes_len] at e5
  subst e5
  have HBy2 := Lib.hid hby2
  clear hrow2 hrd2 ho2 hown2 hby2 HT HO1 HRB1 HRD1
  have x2 : w2.cell? ⟨rd, 2, none⟩ = some (.int .i64 0) := HRD2.out.cellAt rfl
  go_upto_region 6 with fail
  have hlr2 := HRB2.out.lt
  have hld2 : rd < w2.heap.size := Box.lt HRD2.out
  have HSB5 := Lib.hid (Box.fresh w2 34 z18)
  have HRD5 := Lib.hid (show RdAt (w2.alloc (.cells z18 34)) rd A cp b j0 0 from Box.alloc HRD2.out _)
  have HRB5 := Lib.hid (HRB2.out.alloc (.cells z18 34))
  have HO5 := Lib.hid (HO2.out.alloc (.cells z18 34))
  have HBy5 := Lib.hid (HBy2.out.only ((Only.refl Non w2).alloc (.cells z18 34)) fun _ _ => id)
  change Code.wp _ _ _ _ (w2.alloc (.cells z18 34))
  generalize w2.alloc (.cells z18 34) = W5 at *
  generalize hsb : w2.heap.size = sb at *
  have Hsr := Lib.hid (show ¬ sb = rb by omega)
  have Hsd := Lib.hid (show ¬ sb = rd by omega)
  have Hsb := Lib.hid (show rb ≤ sb by omega)
  have Hdl := Lib.hid (show rd < sb by omega)
  clear hsb hlr2 hld2 HBy2 HO2 HRB2 HRD2 x2
  have Hs5 := Lib.hid HSB5.out.lt
  go_wp2_with fail
  refine (confget_any A5 _ c5 c W5 HBy5.out HC.out).mono ?_
  rintro e w3 ⟨B, m, cb, rfl, hh3, ho3, hob3⟩
  have HH3 := Lib.hid hh3
  have HOB := Lib.hid (show ∀ k, ownB (.slice B m cb) k → sb < k from fun k hk => Nat.lt_of_lt_of_le Hs5.out (hob3 k hk).1)
  have HOZ := Lib.hid (show ∀ k, ownB (.slice B m cb) k → k < w3.heap.size from fun k hk => (hob3 k hk).2)
  have HSB3 := Lib.hid (ho3.box HSB5.out id)
  have HRD3 := Lib.hid (show RdAt w3 rd A cp b j0 0 from ho3.box HRD5.out id)
  have HRB3 := Lib.hid (ho3.box HRB5.out id)
  have HO3 := Lib.hid (HO5.out.trans ho3)
  clear hh3 ho3 hob3 HSB5 HRD5 HRB5 HO5 HBy5 Hs5
  have HT3 := Lib.hid (z18_there HSB3.out)
  have hoS := Only.setCells (S := Just sb) (g := sb) (.inl rfl) (cfgCells c (.slice B m cb)).toList 0 w3 (Only.refl _ _)
  have HSB4 := Lib.hid (show Box (w3.setCells sb 0 (cfgCells c (.slice B m cb)).toList) sb 34 (scrCells c (.slice B m cb) (.slice none 0 0)) from by rw [← put_cfg]; exact Box.setCells _ _ _ _ HSB3.out)
  have HRD4 := Lib.hid (show RdAt (w3.setCells sb 0 (cfgCells c (.slice B m cb)).toList) rd A cp b j0 0 from hoS.box HRD3.out (fun e => Hsd.out e.symm))
  have HRB4 := Lib.hid (hoS.box HRB3.out (fun e => Hsr.out e.symm))
  have HH4 := Lib.hid (HH3.out.off hoS fun k hk e => Nat.lt_irrefl sb (by have := HOB.out k hk; rw [show k = sb from e] at this; exact this))
  have HO4 := Lib.hid (HO3.out.trans' hoS fun k hk => .inr (by rw [Hrb.out, show k = sb from hk]; exact Hsb.out))
  have Hz4 := Lib.hid (show w3.heap.size ≤ (w3.setCells sb 0 (cfgCells c (.slice B m cb)).toList).heap.size from hoS.size)
  have y2 : (w3.setCells sb 0 (cfgCells c (.slice B m cb)).toList).cell? ⟨rd, 2, none⟩ = some (.int .i64 0) := HRD4.out.cellAt rfl
  have g2 : (w3.setCells sb 0 (cfgCells c (.slice B m cb)).toList).frozen? ⟨rd, 2, none⟩ = false := Box.free HRD4.out 2
  clear hoS
  go_wp2_with (refine wpList_store_mid rfl 25 _ _ rfl sb 0 (cfgCells c (.slice B m cb)) rfl rfl HT3.out (by kernel_rfl) (cfg_one c B m cb) ?_; generalize w3.setCells sb 0 (cfgCells c (.slice B m cb)).toList = w4 at *)
  have hoR : Only (Just rd) w4 (w4.setCell ⟨rd, 2, none⟩ (.int .i64 0)) := (Only.refl (Just rd) w4).setCell (p := ⟨rd, 2, none⟩) (.inl rfl) _
  have HRD6 := Lib.hid (show RdAt (w4.setCell ⟨rd, 2, none⟩ (.int .i64 0)) rd A cp b j0 0 from Box.store HRD4.out 2 _)
  have HSB6 := Lib.hid (hoR.box HSB4.out Hsd.out)
  have HRB6 := Lib.hid (hoR.box HRB4.out (fun e => Hrr.out e.symm))
  have HH6 := Lib.hid (HH4.out.off hoR fun k hk e => by have h1 := HOB.out k hk; have h2 := Hdl.out; have e : k = rd := e; omega)
  have HO6 := Lib.hid (HO4.out.trans' hoR fun k hk => .inr (by rw [Hrb.out, show k = rd from hk]; exact Hrd1.out))
  have HOw6 := HO6.out.size
  have Hz6 := Lib.hid (Nat.le_trans Hz4.out hoR.size)
  clear hoR y2 g2 HRD4 HSB4 HRB4 HH4 HO4 HSB3 HRD3 HRB3 HO3 HH3 HT3
  generalize w4.setCell ⟨rd, 2, none⟩ (.int .i64 0) = w6 at *
  have HN6 := Lib.hid (rnum_any rd A cp b j0 0 w6 HRD6.out (Hby.out.only HO6.out fun _ _ => id) (fun _ => Hj0.out) HBs.out)
  rw [Hsn.out] at HN6
  refine HN6.out.mono ?_
  rintro e w7 ⟨rfl, hrd7, ho7⟩
  have HRD7 := Lib.hid hrd7
  have HSB7 := Lib.hid (ho7.box HSB6.out Hsd.out)
  have HRB7 := Lib.hid (ho7.box HRB6.out (fun e => Hrr.out e.symm))
  have HH7 := Lib.hid (HH6.out.off ho7 fun k hk e => by have h1 := HOB.out k hk; have h2 := Hdl.out; have e : k = rd := e; omega)
  have HO7 := Lib.hid (HO6.out.trans' ho7 fun k hk => .inr (by rw [Hrb.out, show k = rd from hk]; exact Hrd1.out))
  have Hz7 := Lib.hid (Nat.le_trans Hz6.out ho7.size)
  clear hrd7 ho7 Hz4 Hz6 HRD6 HSB6 HRB6 HH6 HO6 HN6 HOw6
  have x2 : w7.cell? ⟨rd, 2, none⟩ = some (.int .i64 x) := HRD7.out.cellAt rfl
  go_upto_region 11 with fail
  have i2 : w7.drew.cell? ⟨rd, 2, none⟩ = some (.int .i64 x) := HRD7.out.cellAt rfl
  refine wp_region_tail (S := (fun w' : World => w'.cell? ⟨rd, 2, none⟩ = some (.int .i64 x))) 6 (by kernel_rfl) (by kernel_rfl) ?_ ?_
  · first | exact i3 | exact i2 | assumption
  intro hSS
  refine wpHd_take (i := 0) (v := ?_) (by kernel_rfl) rfl (by kernel_rfl) (fun _ _ _ h => h) (Or.inl ⟨by rfl, ?_⟩) (by assumption) ?_
  rotate_left
  · intro w hSw; (try dsimp only at hSw); go_simp; (try with_reducible rfl)
  try simp only [Act.put, List.getElem_toArray, List.getElem_cons_succ, List.getElem_cons_zero, List.setIfInBounds_toArray, List.set_cons_zero, List.set_cons_succ]
  refine wpHd_take (i := 1) (v := ?_) (by kernel_rfl) rfl (by kernel_rfl) (fun _ _ _ h => h) (Or.inl ⟨by rfl, ?_⟩) (by assumption) ?_
  rotate_left
  · intro w hSw; (try dsimp only at hSw); go_simp; (try with_reducible rfl)
  try simp only [Act.put, List.getElem_toArray, List.getElem_cons_succ, List.getElem_cons_zero, List.setIfInBounds_toArray, List.set_cons_zero, List.set_cons_succ]
  refine wpHd_take (i := 2) (v := ?_) (by kernel_rfl) rfl (by kernel_rfl) (fun _ _ _ h => h) (Or.inl ⟨by rfl, ?_⟩) (by assumption) ?_
  rotate_left
  · intro w hSw; (try dsimp only at hSw); go_simp; (try with_reducible rfl)
  try simp only [Act.put, List.getElem_toArray, List.getElem_cons_succ, List.getElem_cons_zero, List.setIfInBounds_toArray, List.set_cons_zero, List.set_cons_succ]
  refine wpHd_take (i := 3) (v := ?_) (by kernel_rfl) rfl (by kernel_rfl) (fun _ _ _ h => h) (Or.inl ⟨by rfl, ?_⟩) (by assumption) ?_
  rotate_left
  · intro w hSw; (try dsimp only at hSw); go_simp; (try with_reducible rfl)
  try simp only [Act.put, List.getElem_toArray, List.getElem_cons_succ, List.getElem_cons_zero, List.setIfInBounds_toArray, List.set_cons_zero, List.set_cons_succ]
  refine wpHd_take (i := 4) (v := ?_) (by kernel_rfl) rfl (by kernel_rfl) (fun _ _ _ h => h) (Or.inl ⟨by rfl, ?_⟩) (by assumption) ?_
  rotate_left
  · intro w hSw; (try dsimp only at hSw); go_simp; (try with_reducible rfl)
  try simp only [Act.put, List.getElem_toArray, List.getElem_cons_succ, List.getElem_cons_zero, List.setIfInBounds_toArray, List.set_cons_zero, List.set_cons_succ]
  refine wpHd_one (i := 5) rfl (by kernel_rfl) (fun K hK => ?_)
  refine wp_store_row 34 _ _ rfl rb z18 rfl rfl 34 _ (show Box w7.drew rb _ z18 from HRB7.out) (by kernel_rfl) rfl z18_one ?_
  have i3 := ((Only.refl (Just rb) w7.drew).setRow (g := rb) (.inl rfl) z18).cell i2 (show ¬ rd = rb from Hrr.out)
  refine hK.out _ _ ?_ (fun hSS => ?_)
  · first | exact i3 | exact i2 | assumption
  clear hK
  try simp only [Act.put, List.getElem_toArray, List.getElem_cons_succ, List.getElem_cons_zero, List.setIfInBounds_toArray, List.set_cons_zero, List.set_cons_succ]
  refine wpHd_end (by kernel_rfl) ?_
  clear hSS
  go_wp2_with fail
  (try simp only [Exit.inBlock, Exit.then])
  refine bodyPost_ret (results_row_tmp rfl _ _ rb _ _ _ rfl ((show Box w7.drew rb _ z18 from HRB7.out).setRow _) Try.underlying34 rfl (by kernel_rfl)) rfl ?_
  exact ⟨rfl, (HO7.out.drew).setRow (.inr (by rw [Hrb.out]; exact Nat.le_refl _)) _⟩
theorem get25_rest (A : Option Addr) (n cp : Nat) (b : List Int) (c : CfgA) (j0 nn j1 : Nat) (w : World) (hby : Byt w (.slice A n cp) b) (hb : IsB b) (ht : textR 400 b 0 = .ok (confB c, j0)) (hc : CfgP c) (hn : numR b j0 = .ok (nn, j1)) (hnn : nn ≤ 1000)
    (hA : ∀ k l q, k ≤ nn → actsR k b j1 = .ok (l, q) → ∀ a ∈ l, ActP a) : Calls Try.prog 10 #[.slice A n cp] w (GetOut c b nn j1 w) := by
  have hnl := hby.len.1
  subst hnl
  have hb0 : 0 < b.length := by
    obtain ⟨k1, k2, h1, _⟩ := textR_ok ht
    rcases Nat.eq_zero_or_pos b.length with h0 | h0
    · rw [List.eq_nil_of_length_eq_zero h0, List.drop_nil] at h1; cases h1
    · exact h0
  obtain ⟨ga, oa, eA, hca⟩ := hby.cellAt hb0
  have Hga := Lib.hid (show ga < w.heap.size from World.block_lt_of_cell? w _ hca)
  have HeA := Lib.hid eA
  have Hby := Lib.hid hby
  have HBs := Lib.hid hb
  have HC := Lib.hid hc
  have Hst := Lib.hid (stTxt_ok ht)
  have Hj0 := Lib.hid (textR_le (Nat.zero_le _) ht)
  have Hj1 := Lib.hid (numR_le (textR_le (Nat.zero_le _) ht) hn)
  have Hsn := Lib.hid (stNum_ok hn)
  have HA := Lib.hid hA
  clear hby hb ht hc hn hA hb0 eA hca
  go_enter Try.func10, Try.ntmps10
  go_upto_region 2 with fail
  have HRB1 := Lib.hid ((Box.fresh w 34 z18).alloc (.cells #[.slice A b.length cp, .int .i64 0, .int .i64 0] 59))
  have HRD1 := Lib.hid (show RdAt ((w.alloc (.cells z18 34)).alloc (.cells #[.slice A b.length cp, .int .i64 0, .int .i64 0] 59)) (w.heap.size + 1) A cp b 0 0 from by
    have := Box.fresh (w.alloc (.cells z18 34)) 59 #[.slice A b.length cp, .int .i64 0, .int .i64 0]
    rwa [show (w.alloc (.cells z18 34)).heap.size = w.heap.size + 1 from World.size_alloc _ _] at this)
  have HO1 := Lib.hid (show Only Non w ((w.alloc (.cells z18 34)).alloc (.cells #[.slice A b.length cp, .int .i64 0, .int .i64 0] 59)) from ((Only.refl Non w).alloc _).alloc _)
  change Code.wp _ _ _ _ ((w.alloc (.cells z18 34)).alloc (.cells #[.slice A b.length cp, .int .i64 0, .int .i64 0] 59))
  generalize (w.alloc (.cells z18 34)).alloc (.cells #[.slice A b.length cp, .int .i64 0, .int .i64 0] 59) = W1 at *
  have Hrr := Lib.hid (show ¬ w.heap.size + 1 = w.heap.size by omega)
  have Hrd1 := Lib.hid (show w.heap.size ≤ w.heap.size + 1 by omega)
  generalize hrd : w.heap.size + 1 = rd at *
  clear hrd
  generalize hrb : w.heap.size = rb at *
  have Hrb := Lib.hid hrb
  clear hrb
  have HT := Lib.hid (rtxt_any rd A cp b 0 400 0 W1 HRD1.out (Hby.out.only HO1.out fun _ _ => id) (fun _ => Nat.zero_le _) HBs.out)
  rw [Hst.out] at HT
  go_wp2_with fail
  refine HT.out.mono ?_
  rintro e w2 ⟨v2, rfl, hrow2, hrd2, ho2, hown2⟩
  have HRD2 := Lib.hid hrd2
  have HRB2 := Lib.hid (ho2.box HRB1.out (fun e => Hrr.out e.symm))
  have HO2 := Lib.hid (HO1.out.trans' ho2 fun k hk => .inr (by rw [Hrb.out, hk]; exact Hrd1.out))
  have hby2 := hrow2.byt (by have := confB_len c HC.out.hs.2.2; omega)
  obtain ⟨A5, c5, e5, _, _⟩ := hrow2.shape
  rw [bytes_len] at e5
  subst e5
  have HBy2 := Lib.hid hby2
  clear hrow2 hrd2 ho2 hown2 hby2 HT HO1 HRB1 HRD1
  have x2 : w2.cell? ⟨rd, 2, none⟩ = some (.int .i64 0) := HRD2.out.cellAt rfl
  go_upto_region 6 with fail
  have hlr2 := HRB2.out.lt
  have hld2 : rd < w2.heap.size := Box.lt HRD2.out
  have HSB5 := Lib.hid (Box.fresh w2 34 z18)
  have HRD5 := Lib.hid (show RdAt (w2.alloc (.cells z18 34)) rd A cp b j0 0 from Box.alloc HRD2.out _)
  have HRB5 := Lib.hid (HRB2.out.alloc (.cells z18 34))
  have HO5 := Lib.hid (HO2.out.alloc (.cells z18 34))
  have HBy5 := Lib.hid (HBy2.out.only ((Only.refl Non w2).alloc (.cells z18 34)) fun _ _ => id)
  change Code.wp _ _ _ _ (w2.alloc (.cells z18 34))
  generalize w2.alloc (.cells z18 34) = W5 at *
  generalize hsb : w2.heap.size = sb at *
  have Hsr := Lib.hid (show ¬ sb = rb by omega)
  have Hsd := Lib.hid (show ¬ sb = rd by omega)
  have Hsb := Lib.hid (show rb ≤ sb by omega)
  have Hdl := Lib.hid (show rd < sb by omega)
  clear hsb hlr2 hld2 HBy2 HO2 HRB2 HRD2 x2
  have Hs5 := Lib.hid HSB5.out.lt
  go_wp2_with fail
  refine (confget_any A5 _ c5 c W5 HBy5.out HC.out).mono ?_
  rintro e w3 ⟨B, m, cb, rfl, hh3, ho3, hob3⟩
  have HH3 := Lib.hid hh3
  have HOB := Lib.hid (show ∀ k, ownB (.slice B m cb) k → sb < k from fun k hk => Nat.lt_of_lt_of_le Hs5.out (hob3 k hk).1)
  have HOZ := Lib.hid (show ∀ k, ownB (.slice B m cb) k → k < w3.heap.size from fun k hk => (hob3 k hk).2)
  have HSB3 := Lib.hid (ho3.box HSB5.out id)
  have HRD3 := Lib.hid (show RdAt w3 rd A cp b j0 0 from ho3.box HRD5.out id)
  have HRB3 := Lib.hid (ho3.box HRB5.out id)
  have HO3 := Lib.hid (HO5.out.trans ho3)
  clear hh3 ho3 hob3 HSB5 HRD5 HRB5 HO5 HBy5 Hs5
  have HT3 := Lib.hid (z18_there HSB3.out)
  have hoS := Only.setCells (S := Just sb) (g := sb) (.inl rfl) (cfgCells c (.slice B m cb)).toList 0 w3 (Only.refl _ _)
  have HSB4 := Lib.hid (show Box (w3.setCells sb 0 (cfgCells c (.slice B m cb)).toList) sb 34 (scrCells c (.slice B m cb) (.slice none 0 0)) from by rw [← put_cfg]; exact Box.setCells _ _ _ _ HSB3.out)
  have HRD4 := Lib.hid (show RdAt (w3.setCells sb 0 (cfgCells c (.slice B m cb)).toList) rd A cp b j0 0 from hoS.box HRD3.out (fun e => Hsd.out e.symm))
  have HRB4 := Lib.hid (hoS.box HRB3.out (fun e => Hsr.out e.symm))
  have HH4 := Lib.hid (HH3.out.off hoS fun k hk e => Nat.lt_irrefl sb (by have := HOB.out k hk; rw [show k = sb from e] at this; exact this))
  have HO4 := Lib.hid (HO3.out.trans' hoS fun k hk => .inr (by rw [Hrb.out, show k = sb from hk]; exact Hsb.out))
  have Hz4 := Lib.hid (show w3.heap.size ≤ (w3.setCells sb 0 (cfgCells c (.slice B m cb)).toList).heap.size from hoS.size)
  have y2 : (w3.setCells sb 0 (cfgCells c (.slice B m cb)).toList).cell? ⟨rd, 2, none⟩ = some (.int .i64 0) := HRD4.out.cellAt rfl
  have g2 : (w3.setCells sb 0 (cfgCells c (.slice B m cb)).toList).frozen? ⟨rd, 2, none⟩ = false := Box.free HRD4.out 2
  clear hoS
  go_wp2_with (refine wpList_store_mid rfl 25 _ _ rfl sb 0 (cfgCells c (.slice B m cb)) rfl rfl HT3.out (by kernel_rfl) (cfg_one c B m cb) ?_; generalize w3.setCells sb 0 (cfgCells c (.slice B m cb)).toList = w4 at *)
  have hoR : Only (Just rd) w4 (w4.setCell ⟨rd, 2, none⟩ (.int .i64 0)) := (Only.refl (Just rd) w4).setCell (p := ⟨rd, 2, none⟩) (.inl rfl) _
  have HRD6 := Lib.hid (show RdAt (w4.setCell ⟨rd, 2, none⟩ (.int .i64 0)) rd A cp b j0 0 from Box.store HRD4.out 2 _)
  have HSB6 := Lib.hid (hoR.box HSB4.out Hsd.out)
  have HRB6 := Lib.hid (hoR.box HRB4.out (fun e => Hrr.out e.symm))
  have HH6 := Lib.hid (HH4.out.off hoR fun k hk e => by have h1 := HOB.out k hk; have h2 := Hdl.out; have e : k = rd := e; omega)
  have HO6 := Lib.hid (HO4.out.trans' hoR fun k hk => .inr (by rw [Hrb.out, show k = rd from hk]; exact Hrd1.out))
  have HOw6 := HO6.out.size
  have Hz6 := Lib.hid (Nat.le_trans Hz4.out hoR.size)
  clear hoR y2 g2 HRD4 HSB4 HRB4 HH4 HO4 HSB3 HRD3 HRB3 HO3 HH3 HT3
  generalize w4.setCell ⟨rd, 2, none⟩ (.int .i64 0) = w6 at *
  have HN6 := Lib.hid (rnum_any rd A cp b j0 0 w6 HRD6.out (Hby.out.only HO6.out fun _ _ => id) (fun _ => Hj0.out) HBs.out)
  rw [Hsn.out] at HN6
  refine HN6.out.mono ?_
  rintro e w7 ⟨rfl, hrd7, ho7⟩
  have HRD7 := Lib.hid hrd7
  have HSB7 := Lib.hid (ho7.box HSB6.out Hsd.out)
  have HRB7 := Lib.hid (ho7.box HRB6.out (fun e => Hrr.out e.symm))
  have HH7 := Lib.hid (HH6.out.off ho7 fun k hk e => by have h1 := HOB.out k hk; have h2 := Hdl.out; have e : k = rd := e; omega)
  have HO7 := Lib.hid (HO6.out.trans' ho7 fun k hk => .inr (by rw [Hrb.out, show k = rd from hk]; exact Hrd1.out))
  have Hz7 := Lib.hid (Nat.le_trans Hz6.out ho7.size)
  clear hrd7 ho7 Hz4 Hz6 HRD6 HSB6 HRB6 HH6 HO6 HN6 HOw6
  have x2 : w7.cell? ⟨rd, 2, none⟩ = some (.int .i64 0) := HRD7.out.cellAt rfl
  have h1000 : ¬ (1000 : Int) < nn := by omega
  have Hnba := Lib.hid (show ∀ k, ownB (.slice A b.length cp) k → k < rb from fun k hk => by
    rw [HeA.out] at hk
    have := ownB_slice.1 hk
    have h := Hga.out
    omega)
  have hl7 := HSB7.out.lt
  generalize hbase : w7.heap.size = base at *
  have Hbs := Lib.hid (show sb < base from hl7)
  have HOZb := Lib.hid (show ∀ k, ownB (.slice B m cb) k → k < base from fun k hk => Nat.lt_of_lt_of_le (HOZ.out k hk) Hz7.out)
  have HS := Lib.hid (show GRel c b nn j1 A cp rd sb rb base B m cb w (.bool false) (.int .i64 0) w7 from ⟨0, [], j1, .slice none 0 0, Nat.zero_le _, rfl, rfl, rfl, Hj1.out, HRD7.out, HSB7.out, AcRow.nil _ _, HRB7.out, HH7.out, HO7.out, by rw [hbase]; exact Nat.le_refl _⟩)
  clear hl7 hbase HRD7 HSB7 HRB7 HH7 HO7
  go_wp2_with fail
  clear x2
  go_loopw [8, 62] (fun wrong i wr => GRel c b nn j1 A cp rd sb rb base B m cb w wrong i wr) (fun _ i _ => nn - (intOf i).toNat)
  case atStart => exact HS.out
  case round =>
    clear HS
    obtain ⟨k, L, p, ls, hk, rfl, rfl, hL, hp, hrd, hsb, hac, hrb, hh, ho, hbz⟩ := hrel
    have HRD := Lib.hid hrd
    have HSB := Lib.hid hsb
    have HAC := Lib.hid hac
    have HRB := Lib.hid hrb
    have HH := Lib.hid hh
    have Ho := Lib.hid ho
    have HL := Lib.hid hL
    have Hp := Lib.hid hp
    have Hbz := Lib.hid hbz
    clear hrd hsb hac hrb hh ho hL hp hbz
    by_cases hlt : k < nn
    · have hlti : (k : Int) < nn := by omega
      have Hlt := Lib.hid hlt
      go_upto_region 18 with fail
      have HBXa := Lib.hid (Box.fresh wr 47 (acC 0 b (0, 0) 0))
      have HRDa := Lib.hid (show RdAt (wr.alloc (.cells (acC 0 b (0, 0) 0) 47)) rd A cp b p 0 from Box.alloc HRD.out _)
      have Hoa := Lib.hid ((Only.refl Non wr).alloc (.cells (acC 0 b (0, 0) 0) 47))
      change Code.wp _ _ _ _ (wr.alloc (.cells (acC 0 b (0, 0) 0) 47))
      have Hla := Lib.hid (show wr.heap.size < (wr.alloc (.cells (acC 0 b (0, 0) 0) 47)).heap.size from HBXa.out.lt)
      generalize wr.alloc (.cells (acC 0 b (0, 0) 0) 47) = Wa at *
      have HHoff := Lib.hid (show ∀ w', Only (S2 rd wr.heap.size) wr w' → HintsAt w' B m cb c.h from fun w' ho => by
        refine ⟨HH.out.len, HH.out.cap, HH.out.max, fun i hi => ?_⟩
        obtain ⟨g, o, e, hg, h0, h1, h2, h3⟩ := HH.out.at_ i hi
        have hn : ¬ S2 rd wr.heap.size g := fun hs => by
          have h1 := HOB.out g (by rw [e]; exact ownB_slice.2 rfl)
          have h2 := Hdl.out
          rcases (show g = rd ∨ g = wr.heap.size from hs) with e | e <;> omega
        exact ⟨g, o, e, Nat.lt_of_lt_of_le hg ho.size, ho.cell h0 hn, ho.cell h1 hn, ho.cell h2 hn, ho.cell h3 hn⟩)
      generalize hab : wr.heap.size = ab at *
      have hab' := Lib.hid hab
      clear hab
      have Hbab := Lib.hid (show base ≤ ab from Hbz.out)
      have HBXb := Lib.hid (HBXa.out.alloc (.cells #[.pointer (some ⟨ab, 0, none⟩)] 64))
      have HRDb := Lib.hid (show RdAt (Wa.alloc (.cells #[.pointer (some ⟨ab, 0, none⟩)] 64)) rd A cp b p 0 from Box.alloc HRDa.out _)
      have Hob := Lib.hid (Hoa.out.alloc (.cells #[.pointer (some ⟨ab, 0, none⟩)] 64))
      have hsep := show rd ≠ ab ∧ sb ≠ ab ∧ rb ≠ ab from by have := Hbab.out; have := Hbs.out; have := Hdl.out; have := Hrd1.out; omega
      have Hsep := Lib.hid hsep
      have Hnb := Lib.hid (show ∀ k, ownB (.slice A b.length cp) k → k ≠ rd ∧ k ≠ ab from fun k hk => by have h1 := Hnba.out k hk; have := Hbab.out; have := Hbs.out; have := Hdl.out; have := Hrd1.out; omega)
      have HI0 := Lib.hid (into0_any rd ab Wa.heap.size A cp b p (Wa.alloc (.cells #[.pointer (some ⟨ab, 0, none⟩)] 64)) (Hby.out.only (Ho.out.trans Hob.out) fun _ _ => id) Hnb.out Hp.out HBs.out Hsep.out.1 (fun e => by have := Hla.out; have := Hbab.out; have := Hbs.out; have := Hdl.out; omega) (fun e => by have := Hla.out; omega) HBXb.out HRDb.out (Box.fresh Wa _ _))
      clear hsep
      go_wp2_with fail
      refine HI0.out.mono ?_
      rintro e w1 ⟨rfl, hi1⟩
      have hi1b : (Box w1 ab 47 (acC (stNum b p 0).1 b ((stNum b p 0).2.1, (stNum b p 0).2.2) 0) ∧ RdAt w1 rd A cp b (stNum b p 0).2.1 (stNum b p 0).2.2) ∧ Only (S2 rd ab) (Wa.alloc (.cells #[.pointer (some ⟨ab, 0, none⟩)] 64)) w1 := ⟨by have := hi1.1; rw [if_neg (by decide)] at this; exact this, hi1.2⟩
      have HB1 := Lib.hid hi1b.1.1
      have HR1 := Lib.hid hi1b.1.2
      have Ho1 := Lib.hid (show Only (S2 rd ab) wr w1 from (Hob.out.mono fun _ h => h.elim).trans hi1b.2)
      clear hi1 hi1b HI0 HBXa HRDa Hoa HBXb HRDb Hob
      generalize hq : ((stNum b p 0).2.1, (stNum b p 0).2.2) = q at *
      have Hq := Lib.hid hq
      clear hq
      have HO1 := Lib.hid (show Only Non w w1 from Ho.out.trans' Ho1.out fun k hk => .inr (by rw [Hrb.out]; rcases (show k = rd ∨ k = ab from hk) with e | e <;> (have := Hbab.out; have := Hbs.out; have := Hdl.out; have := Hrd1.out; omega)))
      have Hqle := Lib.hid (show q.2 = 0 → q.1 ≤ b.length from by rw [← Hq.out]; exact fun h => stNum_le (fun _ => Hp.out) h)
      have HRq := Lib.hid (show RdAt w1 rd A cp b q.1 q.2 from by rw [← Hq.out]; exact HR1.out)
      have Hl1 := Lib.hid HB1.out.lt
      generalize hKK : (stNum b p 0).1 = KK at *
      have HKK := Lib.hid hKK
      clear hKK HR1
      have hpr1 : w1.heap.size ≠ rd := by have := Hl1.out; have := Hbab.out; have := Hbs.out; have := Hdl.out; omega
      have hpa1 : w1.heap.size ≠ ab := by have := Hl1.out; omega
      have HI1 := Lib.hid (into1_any rd ab w1.heap.size A cp b KK q (w1.alloc (.cells #[.pointer (some ⟨ab, 1, none⟩), .pointer (some ⟨ab, 2, none⟩), .pointer (some ⟨ab, 3, none⟩)] 64)) (Hby.out.only (HO1.out.alloc _) fun _ _ => id) Hnb.out Hqle.out HBs.out Hsep.out.1 hpr1 hpa1 (HB1.out.alloc _) (Box.alloc HRq.out _) (Box.fresh w1 _ _))
      clear hpr1 hpa1
      go_wp2_with fail
      refine HI1.out.mono ?_
      rintro e w2 ⟨rfl, hb2, hr2, ho2⟩
      have HB2 := Lib.hid hb2
      have HR2 := Lib.hid hr2
      have Ho2 := Lib.hid (show Only (S2 rd ab) wr w2 from (Ho1.out.alloc _).trans ho2)
      have HO2 := Lib.hid (show Only Non w w2 from Ho.out.trans' Ho2.out fun k hk => .inr (by rw [Hrb.out]; rcases (show k = rd ∨ k = ab from hk) with e | e <;> (have := Hbab.out; have := Hbs.out; have := Hdl.out; have := Hrd1.out; omega)))
      clear hb2 hr2 ho2 HI1 HB1 HRq Ho1 HO1 Hl1
      have HT2 := Lib.hid (rtxt_any rd A cp b (sgS b q 3).1 64 (sgS b q 3).2 w2 HR2.out (Hby.out.only HO2.out fun _ _ => id) (sgS_le Hqle.out 3) HBs.out)
      have hst : stAct b p = (⟨KK, sgV b q 0, sgV b q 1, sgV b q 2, (stTxt 64 b (sgS b q 3).1 (sgS b q 3).2).1⟩, (stTxt 64 b (sgS b q 3).1 (sgS b q 3).2).2.1, (stTxt 64 b (sgS b q 3).1 (sgS b q 3).2).2.2) := by
        rw [← HKK.out, ← Hq.out]; rfl
      have Hst' := Lib.hid hst
      have H64 := Lib.hid (stTxt_len (most := 64) (b := b) (p := (sgS b q 3).1) (e := (sgS b q 3).2))
      have Hple := Lib.hid (fun h => stTxt_le (most := 64) (sgS_le Hqle.out 3) h)
      clear hst
      generalize stTxt 64 b (sgS b q 3).1 (sgS b q 3).2 = D at *
      obtain ⟨dd, p4, e4⟩ := D
      simp only at HT2 Hst' H64 Hple
      go_wp2_with fail
      refine HT2.out.mono ?_
      rintro e w3 ⟨v3, rfl, hrow3, hr3, ho3, hown3⟩
      have HRW3 := Lib.hid hrow3
      have HR3 := Lib.hid hr3
      have HB3 := Lib.hid (ho3.box HB2.out (fun e => Hsep.out.1 e.symm))
      have Ho3 := Lib.hid (show Only (S2 rd ab) wr w3 from Ho2.out.trans' ho3 fun k hk => .inl (.inl hk))
      have Hl2 := Lib.hid HB2.out.lt
      have HV3 := Lib.hid (show ∀ k, ownB v3 k → ab < k from fun k hk => Nat.lt_of_lt_of_le Hl2.out (hown3 k hk))
      obtain ⟨dA, dc, e3, _, hdm⟩ := hrow3.shape
      rw [bytes_len] at e3
      subst e3
      clear hrow3 hr3 ho3 hown3 HT2 HB2 HR2 Ho2 HO2 Hl2
      have z4 : w3.cell? ⟨ab, 4, none⟩ = some (.slice none 0 0) := HB3.out.cellAt rfl
      have f4 : w3.frozen? ⟨ab, 4, none⟩ = false := HB3.out.free 4
      have hoS : Only (Just ab) w3 (w3.setCell ⟨ab, 4, none⟩ (.slice dA dd.length dc)) := (Only.refl (Just ab) w3).setCell (p := ⟨ab, 4, none⟩) (.inl rfl) _
      have HB4 := Lib.hid (HB3.out.store 4 (.slice dA dd.length dc))
      have HR4 := Lib.hid (show RdAt (w3.setCell ⟨ab, 4, none⟩ (.slice dA dd.length dc)) rd A cp b p4 e4 from hoS.box HR3.out Hsep.out.1)
      have HRW4 := Lib.hid (HRW3.out.only hoS fun k hk e => by have := HV3.out k hk; have e : k = ab := e; omega)
      have Ho4 := Lib.hid (show Only (S2 rd ab) wr (w3.setCell ⟨ab, 4, none⟩ (.slice dA dd.length dc)) from Ho3.out.trans' hoS fun k hk => .inl (.inr hk))
      clear hoS
      go_upto_region 21 with fail
      generalize w3.setCell ⟨ab, 4, none⟩ (.slice dA dd.length dc) = w4 at *
      clear z4 f4 HB3 HR3 HRW3 Ho3
      have HO4 := Lib.hid (show Only Non w w4 from Ho.out.trans' Ho4.out fun k hk => .inr (by rw [Hrb.out]; rcases (show k = rd ∨ k = ab from hk) with e | e <;> (have := Hbab.out; have := Hbs.out; have := Hdl.out; have := Hrd1.out; omega)))
      have HSB4 := Lib.hid (Ho4.out.box HSB.out (show ¬ (sb = rd ∨ sb = ab) from by have := Hsep.out; have := Hsd.out; omega))
      have HRB4 := Lib.hid (Ho4.out.box HRB.out (show ¬ (rb = rd ∨ rb = ab) from by have := Hsep.out; have := Hrr.out; omega))
      have HH4 := Lib.hid (HHoff.out w4 Ho4.out)
      have HAC4 := Lib.hid (HAC.out.only Ho4.out (fun g hg hs => by
          have h1 := (World.ownsRow.lt HAC.out.row g hg)
          rcases (show g = rd ∨ g = ab from hs) with e | e
          · have := Hbs.out; have := Hdl.out; omega
          · rw [hab'.out] at h1; omega) (fun pr hpr g hg hs => by
          have h1 := (HAC.out.data pr hpr).2.2 g hg
          have h2 := (HAC.out.data pr hpr).1.lt hg
          rcases (show g = rd ∨ g = ab from hs) with e | e
          · have := Hbs.out; have := Hdl.out; omega
          · rw [hab'.out] at h2; omega))
      have x2 : w4.cell? ⟨rd, 2, none⟩ = some (.int .i64 e4) := HR4.out.cellAt rfl
      by_cases he4 : e4 = 0
      rotate_left
      · have hx4 : (e4 != 0) = true := by simp [he4]
        have Herr := Lib.hid (show actsR nn b j1 = .error e4 from by
          have h1 := actsR_succ HL.out
          rw [stAct_err (b := b) (p := p) (by rw [Hst'.out]; exact he4), Hst'.out] at h1
          have h2 := actsR_more (nn - (k + 1)) (k + 1) h1
          rwa [show k + 1 + (nn - (k + 1)) = nn from by have := Hlt.out; omega] at h2)
        clear he4
        go_upto_region 22 with fail
        have i2 : w4.drew.cell? ⟨rd, 2, none⟩ = some (.int .i64 e4) := HR4.out.cellAt rfl
        refine wp_region_tail (S := (fun w' : World => w'.cell? ⟨rd, 2, none⟩ = some (.int .i64 e4))) 6 (by kernel_rfl) (by kernel_rfl) ?_ ?_
        · first | exact i3 | exact i2 | assumption
        intro hSS
        refine wpHd_take (i := 0) (v := ?_) (by kernel_rfl) rfl (by kernel_rfl) (fun _ _ _ h => h) (Or.inl ⟨by rfl, ?_⟩) (by assumption) ?_
        rotate_left
        · intro w hSw; (try dsimp only at hSw); go_simp; (try with_reducible rfl)
        try simp only [Act.put, List.getElem_toArray, List.getElem_cons_succ, List.getElem_cons_zero, List.setIfInBounds_toArray, List.set_cons_zero, List.set_cons_succ]
        refine wpHd_take (i := 1) (v := ?_) (by kernel_rfl) rfl (by kernel_rfl) (fun _ _ _ h => h) (Or.inl ⟨by rfl, ?_⟩) (by assumption) ?_
        rotate_left
        · intro w hSw; (try dsimp only at hSw); go_simp; (try with_reducible rfl)
        try simp only [Act.put, List.getElem_toArray, List.getElem_cons_succ, List.getElem_cons_zero, List.setIfInBounds_toArray, List.set_cons_zero, List.set_cons_succ]
        refine wpHd_take (i := 2) (v := ?_) (by kernel_rfl) rfl (by kernel_rfl) (fun _ _ _ h => h) (Or.inl ⟨by rfl, ?_⟩) (by assumption) ?_
        rotate_left
        · intro w hSw; (try dsimp only at hSw); go_simp; (try with_reducible rfl)
        try simp only [Act.put, List.getElem_toArray, List.getElem_cons_succ, List.getElem_cons_zero, List.setIfInBounds_toArray, List.set_cons_zero, List.set_cons_succ]
        refine wpHd_take (i := 3) (v := ?_) (by kernel_rfl) rfl (by kernel_rfl) (fun _ _ _ h => h) (Or.inl ⟨by rfl, ?_⟩) (by assumption) ?_
        rotate_left
        · intro w hSw; (try dsimp only at hSw); go_simp; (try with_reducible rfl)
        try simp only [Act.put, List.getElem_toArray, List.getElem_cons_succ, List.getElem_cons_zero, List.setIfInBounds_toArray, List.set_cons_zero, List.set_cons_succ]
        refine wpHd_take (i := 4) (v := ?_) (by kernel_rfl) rfl (by kernel_rfl) (fun _ _ _ h => h) (Or.inl ⟨by rfl, ?_⟩) (by assumption) ?_
        rotate_left
        · intro w hSw; (try dsimp only at hSw); go_simp; (try with_reducible rfl)
        try simp only [Act.put, List.getElem_toArray, List.getElem_cons_succ, List.getElem_cons_zero, List.setIfInBounds_toArray, List.set_cons_zero, List.set_cons_succ]
        refine wpHd_one (i := 5) rfl (by kernel_rfl) (fun K hK => ?_)
        refine wp_store_row 34 _ _ rfl rb z18 rfl rfl 34 _ (show Box w4.drew rb _ z18 from HRB4.out) (by kernel_rfl) rfl z18_one ?_
        have i3 := ((Only.refl (Just rb) w4.drew).setRow (g := rb) (.inl rfl) z18).cell i2 (show ¬ rd = rb from Hrr.out)
        refine hK.out _ _ ?_ (fun hSS => ?_)
        · first | exact i3 | exact i2 | assumption
        clear hK
        try simp only [Act.put, List.getElem_toArray, List.getElem_cons_succ, List.getElem_cons_zero, List.setIfInBounds_toArray, List.set_cons_zero, List.set_cons_succ]
        refine wpHd_end (by kernel_rfl) ?_
        clear hSS
        go_wp2_with fail
        (try simp only [Exit.inBlock, Exit.then])
        refine bodyPost_ret (results_row_tmp rfl _ _ rb _ _ _ rfl ((show Box w4.drew rb _ z18 from HRB4.out).setRow _) Try.underlying34 rfl (by kernel_rfl)) rfl ?_
        exact ⟨.inl ⟨e4, Herr.out, rfl⟩, (HO4.out.drew).setRow (.inr (by rw [Hrb.out]; exact Nat.le_refl _)) _⟩
      subst he4
      have hok : actsR (k + 1) b j1 = .ok (L.map Prod.fst ++ [⟨KK, sgV b q 0, sgV b q 1, sgV b q 2, dd⟩], p4) := by
        rw [actsR_succ HL.out, stAct_ok (b := b) (p := p) (by rw [Hst'.out]), Hst'.out]
      have Hok := Lib.hid hok
      have HPa := Lib.hid (HA.out (k + 1) _ _ Hlt.out hok ⟨KK, sgV b q 0, sgV b q 1, sgV b q 2, dd⟩ (by simp))
      clear hok
      generalize ha : (⟨KK, sgV b q 0, sgV b q 1, sgV b q 2, dd⟩ : ActR) = a at *
      have Hda := Lib.hid (show dd = a.data from by rw [← ha])
      have z0 : w4.cell? ⟨ab, 0, none⟩ = some (.int .i64 a.kind) := by rw [← ha]; exact HB4.out.cellAt rfl
      have z1 : w4.cell? ⟨ab, 1, none⟩ = some (.int .i64 a.a) := by rw [← ha]; exact HB4.out.cellAt rfl
      have z2 : w4.cell? ⟨ab, 2, none⟩ = some (.int .i64 a.b) := by rw [← ha]; exact HB4.out.cellAt rfl
      have z3 : w4.cell? ⟨ab, 3, none⟩ = some (.int .i64 a.n) := by rw [← ha]; exact HB4.out.cellAt rfl
      have z4 : w4.cell? ⟨ab, 4, none⟩ = some (.slice dA dd.length dc) := HB4.out.cellAt rfl
      clear ha
      have HRi := Lib.hid (aright_any a dA dd.length dc w4 (by rw [Hda.out]) (by have := H64.out; unfold maxLen; omega))
      rw [okAct_yes HPa.out] at HRi
      go_wp2_with fail
      refine HRi.out.mono ?_
      rintro e w5 ⟨rfl, ho5⟩
      have HB5 := Lib.hid (ho5.box HB4.out id)
      have HR5 := Lib.hid (show RdAt w5 rd A cp b p4 0 from ho5.box HR4.out id)
      have HSB5 := Lib.hid (ho5.box HSB4.out id)
      have HRB5 := Lib.hid (ho5.box HRB4.out id)
      have HH5 := Lib.hid (HH4.out.keep ho5)
      have HAC5 := Lib.hid (HAC4.out.keep ho5)
      have HRW5 := Lib.hid (show Row 5 w5 (.slice dA dd.length dc) (bytes a.data) from by rw [← Hda.out]; exact HRW4.out.only ho5 fun _ _ => id)
      have HO5 := Lib.hid (HO4.out.transN ho5)
      have Hs5 := Lib.hid (show ab < w5.heap.size from HB5.out.lt)
      have y0 : w5.cell? ⟨ab, 0, none⟩ = some (.int .i64 a.kind) := ho5.cell z0 id
      have y1 : w5.cell? ⟨ab, 1, none⟩ = some (.int .i64 a.a) := ho5.cell z1 id
      have y2 : w5.cell? ⟨ab, 2, none⟩ = some (.int .i64 a.b) := ho5.cell z2 id
      have y3 : w5.cell? ⟨ab, 3, none⟩ = some (.int .i64 a.n) := ho5.cell z3 id
      have y4 : w5.cell? ⟨ab, 4, none⟩ = some (.slice dA dd.length dc) := ho5.cell z4 id
      have y17 : w5.cell? ⟨sb, 17, none⟩ = some ls := HSB5.out.cellAt rfl
      clear ho5 z0 z1 z2 z3 z4 x2 HRi HB4 HR4 HSB4 HRB4 HH4 HAC4 HRW4 HO4 Ho4
      have HcX := Lib.hid (show ∀ j u, (aCells a (.slice dA dd.length dc))[j]? = some u → (w5.alloc (.cells #[.int .i64 a.kind, .int .i64 a.a, .int .i64 a.b, .int .i64 a.n, .slice dA dd.length dc] 47)).cell? ((⟨w5.heap.size, 0, none⟩ : Addr).add j) = some u from fun j u hj => by
        rw [Addr.add_lit, Nat.zero_add]
        exact (Box.fresh w5 47 _).cellAt (by simpa [aCells] using hj))
      have Hoc := Lib.hid (show Only Non w5 (w5.alloc (.cells #[.int .i64 a.kind, .int .i64 a.a, .int .i64 a.b, .int .i64 a.n, .slice dA dd.length dc] 47)) from (Only.refl _ _).alloc _)
      have Hbl := Lib.hid (show ∀ g, ownB ls g → base ≤ g from fun g hg => (World.ownsRow.lt HAC5.out.row g hg).1)
      have Hll := Lib.hid (show L.length ≤ 1000 from by have := actsR_len k _ _ HL.out; rw [List.length_map] at this; have := Hlt.out; omega)
      have hnr := Hbs.out
      have hrd' := Hdl.out
      have hrb' := Hsb.out
      go_wp2_with (at_builtin; refine wpList_wide _ rfl (.tmp 96) (.tmp 98) 26 47 rfl actInfo rfl (by decide) Try.underlying26 base ls L.length _ (aCells a (.slice dA dd.length dc)) rfl (HAC5.out.row.alloc _) ⟨w5.heap.size, 0, none⟩ rfl rfl HcX.out (by simp [aCells, Value.oneCell']) (by have := Hll.out; unfold maxLen; omega) (by have := Hll.out; omega) (by rw [World.size_alloc]; have := Hs5.out; have := Hbab.out; omega) ?_; intro v9 w9 hown9 ho9 hob9; obtain ⟨A9, c9, e9, _, _⟩ := row_form hown9; subst e9; have HAC9 := Lib.hid ((HAC5.out.keep Hoc.out).push (HRW5.out.only Hoc.out fun _ _ => id) (by rw [← Hda.out]; exact H64.out) (fun g hg => by have := HV3.out g hg; have := Hbab.out; omega) hown9 ho9); have HSB9 := Lib.hid (ho9.box (HSB5.out.alloc _) (fun hg => by have := Hbl.out sb hg; omega)); have HR9 := Lib.hid (show RdAt w9 rd A cp b p4 0 from ho9.box (Box.alloc HR5.out _) (fun hg => by have := Hbl.out rd hg; omega)); have HRB9 := Lib.hid (ho9.box (HRB5.out.alloc _) (fun hg => by have := Hbl.out rb hg; omega)); have HO9 := Lib.hid ((HO5.out.alloc _).trans' ho9 fun g hg => .inr (by rw [Hrb.out]; have := Hbl.out g hg; omega)); have HH9 := Lib.hid ((HH5.out.keep Hoc.out).off ho9 fun g hg hl => by have := HOZb.out g hg; have := Hbl.out g hl; omega); have Hs9 := Lib.hid ho9.size; have y9 : w9.cell? ⟨sb, 17, none⟩ = some ls := HSB9.out.cellAt rfl; have f9 : w9.frozen? ⟨sb, 17, none⟩ = false := HSB9.out.free 17; clear hown9 ho9 hob9)
      have hoZ : Only (Just sb) w9 (w9.setCell ⟨sb, 17, none⟩ (.slice A9 (L.length + 1) c9)) := (Only.refl (Just sb) w9).setCell (p := ⟨sb, 17, none⟩) (.inl rfl) _
      refine ⟨⟨k + 1, L ++ [(a, .slice dA dd.length dc)], p4, .slice A9 (L.length + 1) c9, Hlt.out, by simp, rfl, by rw [List.map_append]; exact Hok.out, Hple.out (by trivial), hoZ.box HR9.out (fun e => Hsd.out e.symm), HSB9.out.store 17 _, HAC9.out.only hoZ (fun g hg e => ?_) (fun pr hpr g hg e => ?_), hoZ.box HRB9.out (fun e => Hsr.out e.symm), HH9.out.off hoZ (fun g hg e => ?_), HO9.out.trans' hoZ (fun g hg => .inr ?_), ?_⟩, ?_⟩
      · have h1 := (World.ownsRow.lt HAC9.out.row g hg).1
        have e : g = sb := e
        omega
      · have h1 := (HAC9.out.data pr hpr).2.2 g hg
        have e : g = sb := e
        omega
      · have h1 := HOB.out g hg
        have e : g = sb := e
        omega
      · have e : g = sb := hg
        rw [Hrb.out]
        omega
      · have h1 := hoZ.size
        have h2 := Hs9.out
        rw [World.size_alloc] at h2
        have h3 := Hs5.out
        have h4 := Hbab.out
        omega
      · simp [intOf]; omega
    · obtain rfl : k = nn := by omega
      have x1 : wr.cell? ⟨rd, 1, none⟩ = some (.int .i64 (p : Nat)) := HRD.out.cellAt rfl
      have hoF := fun (cs : Array Value) => (Only.refl (Just rb) wr).setRow (g := rb) (.inl rfl) cs
      have HoF := Lib.hid hoF
      clear hoF hlt hk
      by_cases hq : p < b.length
      · have hqi : (p : Int) < b.length := by omega
        have Hq := Lib.hid hq
        clear hq
        go_wp2_with (refine wpList_store_row rfl 34 _ _ rfl rb z18 rfl rfl 34 _ HRB.out (by kernel_rfl) rfl z18_one ?_)
        (try simp only [Exit.inBlock, Exit.then])
        refine bodyPost_ret (results_row_tmp rfl _ _ rb _ _ _ rfl (HRB.out.setRow _) Try.underlying34 rfl (by kernel_rfl)) rfl ?_
        exact ⟨.inr ⟨_, p, HL.out, .inl ⟨Hq.out, rfl⟩⟩, Ho.out.setRow (.inr (by rw [Hrb.out]; exact Nat.le_refl _)) _⟩
      · have hqi : ¬ (p : Int) < b.length := by omega
        have Hq := Lib.hid hq
        clear hq
        obtain ⟨D, cd, els, _⟩ := HAC.out.at
        subst els
        have hone : (scrCells c (.slice B m cb) (.slice D L.length cd)).all (·.oneCell') = true := by simp [scrCells, Value.oneCell']
        have Hone := Lib.hid hone
        clear hone
        go_wp2_with (first
          | (refine wpList_load_row rfl 34 _ rfl sb rfl 34 (scrCells c (.slice B m cb) (.slice D L.length cd)) (0, 0) _ HSB.out Try.underlying34 rfl (by kernel_rfl) ?_)
          | (refine wpList_store_row rfl 34 _ _ rfl rb (scrCells c (.slice B m cb) (.slice D L.length cd)) rfl rfl 34 _ HRB.out (by kernel_rfl) rfl Hone.out ?_))
        (try simp only [Exit.inBlock, Exit.then])
        refine bodyPost_ret (results_row_tmp rfl _ _ rb _ _ _ rfl (HRB.out.setRow _) Try.underlying34 rfl (by kernel_rfl)) rfl ?_
        obtain ⟨D', cd', e', hacts⟩ := (HAC.out.only (HoF.out (scrCells c (.slice B m cb) (.slice D L.length cd))) (fun g hg e => by
          have h1 := (World.ownsRow.lt HAC.out.row g hg).1
          have e : g = rb := e
          have := Hbs.out; have := Hsb.out; omega) (fun pr hpr g hg e => by
          have h1 := (HAC.out.data pr hpr).2.2 g hg
          have e : g = rb := e
          have := Hbs.out; have := Hsb.out; omega)).at
        injection e' with e1 e2 e3
        subst e1 e3
        refine ⟨.inr ⟨_, p, HL.out, .inr ⟨by have := Hq.out; omega, B, m, cb, D, cd, ?_, HH.out.off (HoF.out _) (fun g hg e => ?_), ?_⟩⟩, Ho.out.setRow (.inr (by rw [Hrb.out]; exact Nat.le_refl _)) _⟩
        · rw [List.length_map]; rfl
        · have h1 := HOB.out g hg
          have e : g = rb := e
          have := Hsb.out; omega
        · rw [List.length_map]; exact hacts
end
end Go.Proofs.Ytaofjnpmnaohcaa
