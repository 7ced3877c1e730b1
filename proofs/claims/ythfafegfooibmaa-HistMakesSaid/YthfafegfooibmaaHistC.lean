/- A search in memory; value, over. -/
import Derived.Test.YthfafegfooibmaaHistA
import Derived.Deep.CutRange
import Derived.Laws.OwnMore
namespace Go.Proofs.Ythfafegfooibmaa
open Go.RowKit Go.ChangeShapes Go.WideShapes
set_option linter.unusedVariables false
set_option linter.unusedSimpArgs false
abbrev intsN (ps : List Nat) : List Int := ps.map fun (p : Nat) => (p : Int)
abbrev osN (l : List DoneR) (ps : List Nat) : List DoneR := ps.map fun p => l.getD p default
def schC (A : Option Addr) (c : Nat) (l : List DoneR) (av : Value) (size mb steps : Nat) : Array Value := #[.slice A l.length c, av, .int .i64 size, .map (some mb), .int .i64 steps]
structure Sch (w0 w : World) (sb mb : Nat) (A : Option Addr) (c : Nat) (l : List DoneR) (av : Value) (ps : List Nat) (size : Nat) (s : MemD) : Prop where
  o : Only Non w0 w
  sb_ : w0.heap.size ≤ sb
  mb_ : w0.heap.size ≤ mb
  box : Box w sb 42 (schC A c l av size mb s.2)
  met : Met w mb s.1
  dn : DonesAt w0 A l.length c l
  at_ : OwnInts 3 w w0.heap.size av (intsN ps)
  pl : ∀ i, i < ps.length → ps.getD i 0 < l.length
  sz : 1 ≤ size ∧ size ≤ 16
  most : ps.length ≤ 60
section
variable {w0 w w' : World} {sb mb : Nat} {A : Option Addr} {c : Nat} {l : List DoneR} {av : Value} {ps : List Nat} {size : Nat} {s : MemD}
theorem Sch.keep (h : Sch w0 w sb mb A c l av ps size s) (ho : Only Non w w') : Sch w0 w' sb mb A c l av ps size s :=
  ⟨h.o.transN ho, h.sb_, h.mb_, ho.box h.box id, h.met.only ho id, h.dn, h.at_.only ho fun _ _ => id, h.pl, h.sz, h.most⟩
theorem Sch.done (h : Sch w0 w sb mb A c l av ps size s) : DonesAt w A l.length c l := h.dn.keep h.o
theorem osN_at {i : Nat} (hi : i < ps.length) : (osN l ps).getD i default = l.getD (ps.getD i 0) default := by simp [hi]
theorem Sch.place (h : Sch w0 w sb mb A c l av ps size s) {i : Nat} (hi : i < ps.length) : ∃ p, p = ps.getD i 0 ∧ p < l.length ∧ (osN l ps).getD i default = l.getD p default ∧ ∃ B cc, av = .slice B ps.length cc ∧ ∃ g o, B = some ⟨g, o, none⟩ ∧ w.cell? ⟨g, o + i, none⟩ = some (.int .i64 (p : Int)) := by
  obtain ⟨B, cc, e, h1, h2, h3⟩ := h.at_.at
  rw [List.length_map] at e h1 h3
  obtain ⟨g, o, e2, hc⟩ := h3 i hi
  have hg : (intsN ps).getD i 0 = ((ps.getD i 0 : Nat) : Int) := by simp [hi]
  rw [hg] at hc
  exact ⟨_, rfl, h.pl i hi, osN_at hi, B, cc, e, g, o, e2, hc⟩
theorem Sch.at_shape (h : Sch w0 w sb mb A c l av ps size s) : ∃ B cc, av = .slice B ps.length cc ∧ ps.length ≤ cc ∧ cc ≤ maxLen := by
  obtain ⟨B, cc, e, h1, h2, h3⟩ := h.at_.at
  rw [List.length_map] at e h1
  exact ⟨B, cc, e, h1, h2⟩
end
def Rb (b : Bool) (w : World) (e : Ending) (w' : World) : Prop := e = .returned (.bool b) ∧ Only Non w w'
section
set_option maxHeartbeats 2000000
set_option maxRecDepth 100000
variable {w0 w : World} {sb mb : Nat} {A : Option Addr} {c : Nat} {l : List DoneR} {av : Value} {ps : List Nat} {size : Nat} {s : MemD}
theorem bytes0_row (w : World) (n : Nat) (hn : n ≤ 16) : Byt (w.alloc (.cells (madeCells #[.int .u8 0] n) 5)) (.slice (some ⟨w.heap.size, 0, none⟩) n n) (List.replicate n 0) := by
  refine ⟨_, n, by rw [List.length_replicate], by rw [List.length_replicate]; omega, by rw [List.length_replicate]; omega, fun j u hj => ⟨_, 0, rfl, ?_⟩⟩
  rw [Nat.zero_add]
  refine (Box.fresh w _ _).cellAt ?_
  rw [← hj, ← Array.getElem?_toList, toList_madeCells_one]
  simp
theorem value_any (h : Sch w0 w sb mb A c l av ps size s) (x : StD) (hx : x.2 < ps.length) :
    Calls Try.prog 34 #[.pointer (some ⟨sb, 0, none⟩), stV x] w fun e w' => ∃ v, e = .returned v ∧ Byt w' v (valueD (osN l ps) size x) ∧ Only Non w w' := by
  obtain ⟨x1, x2⟩ := x
  dsimp only at hx
  have HO := Lib.hid (show Only Non w (w.alloc (.cells #[.int .u64 x1, .int .i64 x2] 48)) from (Only.refl _ _).alloc _)
  have H := Lib.hid (h.keep HO.out)
  have hsz := h.sz
  obtain ⟨B, cc, rfl, hcc, hcm⟩ := h.at_shape
  obtain ⟨Ac, Am⟩ := And.intro h.dn.cap h.dn.max
  clear h
  unfold stV
  dsimp only
  by_cases hneg : x2 < 0
  · have e : valueD (osN l ps) size (x1, x2) = List.replicate size 0 := by unfold valueD; rw [if_pos hneg]
    rw [e]
    have hmk := run_make_row' (P := Try.prog) 31 5 (.int .u8 0) 1 Try.underlying31 byteInfo rfl .i64 .i64 size (by omega) (by omega)
    clear e
    have c2 : (w.alloc (.cells #[.int .u64 x1, .int .i64 x2] 48)).cell? ⟨sb, 2, none⟩ = some (.int .i64 size) := H.out.box.cellAt rfl
    go_enter Try.func34, Try.ntmps34
    go_upto_region 1 with fail
    generalize hW : w.alloc (.cells #[.int .u64 x1, .int .i64 x2] 48) = W at *
    have x0 : W.cell? ⟨w.heap.size, 1, none⟩ = some (.int .i64 x2) := by rw [← hW]; exact (Box.fresh w _ _).cellAt rfl
    clear hW
    go_wp2
    go_ret
    exact ⟨_, rfl, bytes0_row W size (by omega), HO.out.alloc _⟩
  · obtain ⟨j, rfl⟩ : ∃ j : Nat, x2 = j := ⟨x2.toNat, by omega⟩
    have hj : j < ps.length := by omega
    obtain ⟨p, hp, hpl, hos, B', cc', eav, g, o, rfl, hc⟩ := H.out.place hj
    injection eav with e1 _ e2
    subst e1
    clear e2
    have e : valueD (osN l ps) size (x1, (j : Int)) = (l.getD p default).data := by unfold valueD; rw [if_neg hneg]; dsimp only; rw [Int.toNat_natCast, hos]
    rw [e]
    obtain ⟨g', o', dA, dc, eA, hg', hcells, hby⟩ := H.out.done.at_ p hpl
    subst eA
    have hc5 := hcells 5 _ rfl
    have Hby := Lib.hid hby
    clear e hos hp hcells hby
    generalize l.getD p default = od at *
    have c0 : (w.alloc (.cells #[.int .u64 x1, .int .i64 (j : Int)] 48)).cell? ⟨sb, 0, none⟩ = some (.slice (some ⟨g', o', none⟩) l.length c) := H.out.box.cellAt rfl
    have c1 : (w.alloc (.cells #[.int .u64 x1, .int .i64 (j : Int)] 48)).cell? ⟨sb, 1, none⟩ = some (.slice (some ⟨g, o, none⟩) ps.length cc) := H.out.box.cellAt rfl
    have hpi : (p : Int) < l.length := by omega
    have hji : (j : Int) < ps.length := by omega
    go_enter Try.func34, Try.ntmps34
    go_upto_region 1 with fail
    generalize hW : w.alloc (.cells #[.int .u64 x1, .int .i64 (j : Int)] 48) = W at *
    have x0 : W.cell? ⟨w.heap.size, 1, none⟩ = some (.int .i64 (j : Int)) := by rw [← hW]; exact (Box.fresh w _ _).cellAt rfl
    clear hW
    go_upto_region 3 with fail
    go_quiet (fail)
    go_wp2
    go_ret
    exact ⟨_, rfl, Hby.out.only ((Only.refl Non W).drewN _) fun _ _ => id, HO.out.drewN _⟩
def OvRel (os : List DoneR) (x : StD) (W : World) (i : Value) (wr : World) : Prop := ∃ k : Nat, k ≤ os.length ∧ i = .int .i64 k ∧ (∀ j, j < k → mustD (os.getD j default) = true → x.1.testBit j = true) ∧ Only Non W wr
theorem over_any (h : Sch w0 w sb mb A c l av ps size s) (x : StD) (hx : x.1 < 18446744073709551616) :
    Calls Try.prog 18 #[.pointer (some ⟨sb, 0, none⟩), stV x] w (Rb (decide (overD (osN l ps) x)) w) := by
  obtain ⟨x1, x2⟩ := x
  dsimp only at hx
  have HO := Lib.hid (show Only Non w (w.alloc (.cells #[.int .u64 x1, .int .i64 x2] 48)) from (Only.refl _ _).alloc _)
  have H := Lib.hid (h.keep HO.out)
  have hml := h.most
  obtain ⟨B, cc, rfl, hcc, hcm⟩ := h.at_shape
  obtain ⟨Ac, Am⟩ := And.intro h.dn.cap h.dn.max
  have hol : (osN l ps).length = ps.length := by simp
  have Hol := Lib.hid hol
  clear h hol
  unfold stV
  dsimp only
  have HX := Lib.hid (Box.fresh w 48 #[.int .u64 x1, .int .i64 x2])
  go_enter Try.func18, Try.ntmps18
  go_upto_region 1 with fail
  generalize w.alloc (.cells #[.int .u64 x1, .int .i64 x2] 48) = W at *
  generalize w.heap.size = xb at *
  have c1 : W.cell? ⟨sb, 1, none⟩ = some (.slice B ps.length cc) := H.out.box.cellAt rfl
  go_wp2_with fail
  clear c1
  go_loopw [12] (fun i wr => OvRel (osN l ps) (x1, x2) W i wr) (fun i _ => ps.length - (intOf i).toNat)
  case atStart => exact ⟨0, Nat.zero_le _, rfl, fun j hj => absurd hj (Nat.not_lt_zero _), Only.refl _ _⟩
  case round =>
    obtain ⟨k, hk, rfl, hall, ho⟩ := hrel
    rw [Hol.out] at hk
    have Hall := Lib.hid hall
    have Ho := Lib.hid ho
    have H1 := Lib.hid (H.out.keep ho)
    have HX1 := Lib.hid (ho.box HX.out id)
    clear hall ho
    by_cases hlt : k < ps.length
    · obtain ⟨p, hp, hpl, hos, B', cc', eav, g, o, rfl, hc⟩ := H1.out.place hlt
      injection eav with e1 _ e2
      subst e1
      clear e2 hp
      obtain ⟨g', o', dA, dc, eA, hg', hcells, hby⟩ := H1.out.done.at_ p hpl
      subst eA
      have Hos := Lib.hid hos
      clear hos hby
      generalize l.getD p default = od at *
      obtain ⟨d0, d1, d2, d3, d4, d5, d6, d7, d8, d9⟩ := tenAt hcells
      clear hcells
      have c0 : wr.cell? ⟨sb, 0, none⟩ = some (.slice (some ⟨g', o', none⟩) l.length c) := H1.out.box.cellAt rfl
      have hki : (k : Int) < ps.length := by omega
      have hpi : (p : Int) < l.length := by omega
      have Hlt := Lib.hid hlt
      clear hlt
      have HM := Lib.hid (must_any od dA od.data.length dc wr)
      rcases hmq : mustD od with _ | _
      · rw [hmq] at HM
        have Hmq := Lib.hid hmq
        clear hmq
        go_wp2_with fail
        refine HM.out.mono ?_
        rintro e w2 ⟨rfl, ho2⟩
        have Ho2 := Lib.hid (Ho.out.trans ho2)
        clear ho2
        go_wp2
        have hall' : ∀ j, j < k + 1 → mustD ((osN l ps).getD j default) = true → x1.testBit j = true := fun j hj hm => by
          rcases Nat.lt_or_ge j k with h | h
          · exact Hall.out j h hm
          · obtain rfl : j = k := by omega
            rw [Hos.out, Hmq.out] at hm; cases hm
        exact ⟨⟨k + 1, by rw [Hol.out]; exact Hlt.out, by simp, hall', Ho2.out⟩, by have := Hlt.out; simp [intOf]; omega⟩
      · rw [hmq] at HM
        have Hmq := Lib.hid hmq
        clear hmq
        go_wp2_with fail
        refine HM.out.mono ?_
        rintro e w2 ⟨rfl, ho2⟩
        have Ho2 := Lib.hid (Ho.out.trans ho2)
        have HX2 := Lib.hid (ho2.box HX1.out id)
        have HH := Lib.hid (has_any x1 k x2 hx (show k < 64 by have := Hlt.out; omega) w2)
        clear ho2
        have y0 : w2.cell? ⟨xb, 0, none⟩ = some (.int .u64 x1) := HX2.out.cellAt rfl
        have y1 : w2.cell? ⟨xb, 1, none⟩ = some (.int .i64 x2) := HX2.out.cellAt rfl
        rcases hbq : x1.testBit k with _ | _
        · rw [hbq] at HH
          have Hbq := Lib.hid hbq
          clear hbq
          have hd : decide (overD (osN l ps) (x1, x2)) = false := decide_eq_false fun h => by
            have := h k (by rw [Hol.out]; exact Hlt.out) (by rw [Hos.out]; exact Hmq.out)
            rw [Hbq.out] at this; cases this
          have Hd := Lib.hid hd
          clear hd
          go_wp2_with fail
          refine HH.out.mono ?_
          rintro e w3 ⟨rfl, ho3⟩
          have Ho3 := Lib.hid (Ho2.out.trans ho3)
          clear ho3
          go_wp2
          go_ret
          exact ⟨by rw [Hd.out]; rfl, HO.out.transN Ho3.out⟩
        · rw [hbq] at HH
          have Hbq := Lib.hid hbq
          clear hbq
          go_wp2_with fail
          refine HH.out.mono ?_
          rintro e w3 ⟨rfl, ho3⟩
          have Ho3 := Lib.hid (Ho2.out.trans ho3)
          clear ho3
          go_wp2
          have hall' : ∀ j, j < k + 1 → mustD ((osN l ps).getD j default) = true → x1.testBit j = true := fun j hj hm => by
            rcases Nat.lt_or_ge j k with h | h
            · exact Hall.out j h hm
            · obtain rfl : j = k := by omega
              exact Hbq.out
          exact ⟨⟨k + 1, by rw [Hol.out]; exact Hlt.out, by simp, hall', Ho3.out⟩, by have := Hlt.out; simp [intOf]; omega⟩
    · obtain rfl : k = ps.length := by omega
      have hd : decide (overD (osN l ps) (x1, x2)) = true := decide_eq_true fun i hi hm => Hall.out i (by rwa [Hol.out] at hi) hm
      have Hd := Lib.hid hd
      clear hd hlt
      go_wp2_with fail
      go_ret
      exact ⟨by rw [Hd.out]; rfl, HO.out.transN Ho.out⟩
end
end Go.Proofs.Ythfafegfooibmaa
