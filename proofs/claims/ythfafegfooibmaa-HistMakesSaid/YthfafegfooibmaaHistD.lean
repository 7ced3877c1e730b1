/- free. Printed by histd.py. -/
import Derived.Test.YthfafegfooibmaaHistC
import Derived.Test.YthfafegfooibmaaTail
import Derived.Laws.Tables
namespace Go.Proofs.Ythfafegfooibmaa
open Go.RowKit Go.ChangeShapes Go.WideShapes
set_option linter.unusedVariables false
set_option linter.unusedSimpArgs false
theorem Box.setRow' {w : World} {g : Nat} {t : TypeId} {cs : Array Value} (h : Box w g t cs) (cs' : Array Value) : Box (w.setRow g cs') g t cs' := setRow_heap w g cs cs' t (0, 0) h
theorem Only.setRow' {S : Nat → Prop} {a w : World} (h : Only S a w) {g : Nat} (hg : S g ∨ a.heap.size ≤ g) (cs : Array Value) : Only S a (w.setRow g cs) :=
  ⟨h.os, h.tape, h.output, by simpa [World.setRow] using h.size, fun k hk hn => by
    rw [setRow_other w g k cs (fun e => by subst e; exact hg.elim hn fun h => by omega)]
    exact h.block k hk hn⟩
def zD : Array Value := #[.int .i64 0, .int .i64 0, .int .i64 0, .bool false, .int .i64 0, .slice none 0 0, .int .i64 0, .int .i64 0, .int .i64 0, .bool false]
theorem done_one (o : DoneR) (A : Option Addr) (n c : Nat) : (doneC o (.slice A n c)).all (·.oneCell') = true := by simp [doneC, Value.oneCell']
def FrRel (os : List DoneR) (x1 : Nat) (fr : Int) (W : World) (i : Value) (wr : World) : Prop :=
  ∃ k : Nat, k ≤ os.length ∧ i = .int .i64 k ∧ (∀ j, j < k → x1.testBit j = false → mustD (os.getD j default) = true → ¬ (os.getD j default).to < fr) ∧ Only Non W wr
section
set_option maxHeartbeats 4000000
set_option maxRecDepth 100000
variable {w0 w : World} {sb mb : Nat} {A : Option Addr} {c : Nat} {l : List DoneR} {av : Value} {ps : List Nat} {size : Nat} {s : MemD}
/-- the bytes of the i-th: its slice is known by its cell -/
def OdAt (w0 : World) (A : Option Addr) (p : Nat) (dA : Option Addr) (od : DoneR) (dc : Nat) : Prop := Byt w0 (.slice dA od.data.length dc) od.data
theorem Sch.data_at {w0 w : World} {sb mb : Nat} {A : Option Addr} {c : Nat} {l : List DoneR} {av : Value} {ps : List Nat} {size : Nat} {s : MemD} (h : Sch w0 w sb mb A c l av ps size s) {i : Nat} (hi : i < ps.length) {p : Nat} {dA : Option Addr} {od : DoneR} {dc : Nat}
    (hb : OdAt w0 A p dA od dc) : Byt w (.slice dA od.data.length dc) od.data := Byt.only hb h.o fun _ _ => id
theorem free_any (h : Sch w0 w sb mb A c l av ps size s) (x : StD) (hx : x.1 < 18446744073709551616) (hl : x.2 < ps.length) (i : Nat) (hi : i < ps.length) :
    Calls Try.prog 19 #[.pointer (some ⟨sb, 0, none⟩), stV x, .int .i64 i] w (Rb (decide (freeD (osN l ps) size x i)) w) := by
  obtain ⟨x1, x2⟩ := x
  dsimp only at hx hl
  have HO := Lib.hid (show Only Non w (w.alloc (.cells #[.int .u64 x1, .int .i64 x2] 48)) from (Only.refl _ _).alloc _)
  have H := Lib.hid (h.keep HO.out)
  have hml := h.most
  obtain ⟨B, cc, rfl, hcc, hcm⟩ := h.at_shape
  obtain ⟨Ac, Am⟩ := And.intro h.dn.cap h.dn.max
  have hol : (osN l ps).length = ps.length := by simp
  have Hol := Lib.hid hol
  obtain ⟨p, hp, hpl, hos, B', cc', eav, g, o, rfl, hc⟩ := H.out.place hi
  injection eav with e1 _ e2
  subst e1
  clear e2 hp
  obtain ⟨g', o', dA, dc, eA, hg', hcells, hby⟩ := h.dn.at_ p hpl
  subst eA
  have HOD2 := Lib.hid hos
  have HOD := Lib.hid (show OdAt w0 (some ⟨g', o', none⟩) p dA (l.getD p default) dc from hby)
  have Hc := Lib.hid (fun j v hv => H.out.o.cell (hcells j v hv) id)
  clear h hol hos hby hcells
  generalize l.getD p default = od at *
  unfold stV
  dsimp only
  have HX := Lib.hid (Box.fresh w 48 #[.int .u64 x1, .int .i64 x2])
  go_enter Try.func19, Try.ntmps19
  go_upto_region 1 with fail
  generalize w.alloc (.cells #[.int .u64 x1, .int .i64 x2] 48) = W at *
  generalize w.heap.size = xb at *
  have c0 : W.drew.cell? ⟨sb, 0, none⟩ = some (.slice (some ⟨g', o', none⟩) l.length c) := H.out.box.cellAt rfl
  have c1 : W.drew.cell? ⟨sb, 1, none⟩ = some (.slice (some ⟨g, o, none⟩) ps.length cc) := H.out.box.cellAt rfl
  have hcd : W.drew.cell? ⟨g, o + i, none⟩ = some (.int .i64 (p : Int)) := hc
  obtain ⟨d0, d1, d2, d3, d4, d5, d6, d7, d8, d9⟩ : TenAt W.drew g' (o' + p * 10) od (.slice dA od.data.length dc) := tenAt fun j v hv => Hc.out j v hv
  have hki : (i : Int) < ps.length := by omega
  have hpi : (p : Int) < l.length := by omega
  refine wp_region_tail (S := (fun w' : World => w'.cell? ⟨sb, 0, none⟩ = some (.slice (some ⟨g', o', none⟩) l.length c) ∧ w'.cell? ⟨sb, 1, none⟩ = some (.slice (some ⟨g, o, none⟩) ps.length cc) ∧ w'.cell? ⟨g, o + i, none⟩ = some (.int .i64 (p : Int)) ∧ w'.cell? ⟨g', o' + p * 10, none⟩ = some (.int .i64 od.client) ∧ w'.cell? ⟨g', o' + p * 10 + 1, none⟩ = some (.int .i64 od.slot) ∧ w'.cell? ⟨g', o' + p * 10 + 2, none⟩ = some (.int .i64 od.op) ∧ w'.cell? ⟨g', o' + p * 10 + 3, none⟩ = some (.bool od.write) ∧ w'.cell? ⟨g', o' + p * 10 + 4, none⟩ = some (.int .i64 od.block) ∧ w'.cell? ⟨g', o' + p * 10 + 5, none⟩ = some (.slice dA od.data.length dc) ∧ w'.cell? ⟨g', o' + p * 10 + 6, none⟩ = some (.int .i64 od.code) ∧ w'.cell? ⟨g', o' + p * 10 + 7, none⟩ = some (.int .i64 od.fr) ∧ w'.cell? ⟨g', o' + p * 10 + 8, none⟩ = some (.int .i64 od.to) ∧ w'.cell? ⟨g', o' + p * 10 + 9, none⟩ = some (.bool od.cut))) 14 (by kernel_rfl) (by kernel_rfl) ?_ ?_
  · refine ⟨?_, ?_, ?_, ?_, ?_, ?_, ?_, ?_, ?_, ?_, ?_, ?_, ?_⟩ <;> first | assumption | (refine Only.cell ((Only.refl Non W.drew).alloc _) ?_ id; assumption)
  intro hSS
  refine wpHd_take (i := 0) (v := ?_) (by kernel_rfl) rfl (by kernel_rfl) (fun _ _ _ h => h) (Or.inl ⟨by rfl, ?_⟩) (by assumption) ?_
  rotate_left
  · intro w hSw; (try dsimp only at hSw); go_simp; (try with_reducible rfl)
  try simp only [Act.put, List.getElem_toArray, List.getElem_cons_succ, List.getElem_cons_zero, List.setIfInBounds_toArray, List.set_cons_zero, List.set_cons_succ]
  refine wpHd_take (i := 1) (v := ?_) (by kernel_rfl) rfl (by kernel_rfl) (fun _ _ _ h => h) (Or.inl ⟨by rfl, ?_⟩) (by assumption) ?_
  rotate_left
  · intro w hSw; (try dsimp only at hSw); go_simp; (try with_reducible rfl)
  try simp only [Act.put, List.getElem_toArray, List.getElem_cons_succ, List.getElem_cons_zero, List.setIfInBounds_toArray, List.set_cons_zero, List.set_cons_succ]
  refine wpHd_take (i := 2) (v := ?_) (by kernel_rfl) rfl (by kernel_rfl) (fun _ _ _ h => h) (Or.inl ⟨by rfl, ?_⟩) (by assumption) ?_
  rotate_left
  · intro w hSw; (try dsimp only at hSw); go_simp; (try with_reducible rfl)
  try simp only [Act.put, List.getElem_toArray, List.getElem_cons_succ, List.getElem_cons_zero, List.setIfInBounds_toArray, List.set_cons_zero, List.set_cons_succ]
  refine wpHd_take (i := 3) (v := ?_) (by kernel_rfl) rfl (by kernel_rfl) (fun _ _ _ h => h) (Or.inl ⟨by rfl, ?_⟩) (by assumption) ?_
  rotate_left
  · intro w hSw; (try dsimp only at hSw); go_simp; (try with_reducible rfl)
  try simp only [Act.put, List.getElem_toArray, List.getElem_cons_succ, List.getElem_cons_zero, List.setIfInBounds_toArray, List.set_cons_zero, List.set_cons_succ]
  refine wpHd_take (i := 4) (v := ?_) (by kernel_rfl) rfl (by kernel_rfl) (fun _ _ _ h => h) (Or.inl ⟨by rfl, ?_⟩) (by assumption) ?_
  rotate_left
  · intro w hSw; (try dsimp only at hSw); go_simp; (try with_reducible rfl)
  try simp only [Act.put, List.getElem_toArray, List.getElem_cons_succ, List.getElem_cons_zero, List.setIfInBounds_toArray, List.set_cons_zero, List.set_cons_succ]
  refine wpHd_take (i := 5) (v := ?_) (by kernel_rfl) rfl (by kernel_rfl) (fun _ _ _ h => h) (Or.inl ⟨by rfl, ?_⟩) (by assumption) ?_
  rotate_left
  · intro w hSw; (try dsimp only at hSw); go_simp; (try with_reducible rfl)
  try simp only [Act.put, List.getElem_toArray, List.getElem_cons_succ, List.getElem_cons_zero, List.setIfInBounds_toArray, List.set_cons_zero, List.set_cons_succ]
  refine wpHd_take (i := 6) (v := ?_) (by kernel_rfl) rfl (by kernel_rfl) (fun _ _ _ h => h) (Or.inl ⟨by rfl, ?_⟩) (by assumption) ?_
  rotate_left
  · intro w hSw; (try dsimp only at hSw); go_simp; (try with_reducible rfl)
  try simp only [Act.put, List.getElem_toArray, List.getElem_cons_succ, List.getElem_cons_zero, List.setIfInBounds_toArray, List.set_cons_zero, List.set_cons_succ]
  refine wpHd_take (i := 7) (v := ?_) (by kernel_rfl) rfl (by kernel_rfl) (fun _ _ _ h => h) (Or.inl ⟨by rfl, ?_⟩) (by assumption) ?_
  rotate_left
  · intro w hSw; (try dsimp only at hSw); go_simp; (try with_reducible rfl)
  try simp only [Act.put, List.getElem_toArray, List.getElem_cons_succ, List.getElem_cons_zero, List.setIfInBounds_toArray, List.set_cons_zero, List.set_cons_succ]
  refine wpHd_take (i := 8) (v := ?_) (by kernel_rfl) rfl (by kernel_rfl) (fun _ _ _ h => h) (Or.inl ⟨by rfl, ?_⟩) (by assumption) ?_
  rotate_left
  · intro w hSw; (try dsimp only at hSw); go_simp; (try with_reducible rfl)
  try simp only [Act.put, List.getElem_toArray, List.getElem_cons_succ, List.getElem_cons_zero, List.setIfInBounds_toArray, List.set_cons_zero, List.set_cons_succ]
  refine wpHd_take (i := 9) (v := ?_) (by kernel_rfl) rfl (by kernel_rfl) (fun _ _ _ h => h) (Or.inl ⟨by rfl, ?_⟩) (by assumption) ?_
  rotate_left
  · intro w hSw; (try dsimp only at hSw); go_simp; (try with_reducible rfl)
  try simp only [Act.put, List.getElem_toArray, List.getElem_cons_succ, List.getElem_cons_zero, List.setIfInBounds_toArray, List.set_cons_zero, List.set_cons_succ]
  refine wpHd_take (i := 10) (v := ?_) (by kernel_rfl) rfl (by kernel_rfl) (fun _ _ _ h => h) (Or.inl ⟨by rfl, ?_⟩) (by assumption) ?_
  rotate_left
  · intro w hSw; (try dsimp only at hSw); go_simp; (try with_reducible rfl)
  try simp only [Act.put, List.getElem_toArray, List.getElem_cons_succ, List.getElem_cons_zero, List.setIfInBounds_toArray, List.set_cons_zero, List.set_cons_succ]
  refine wpHd_take (i := 11) (v := ?_) (by kernel_rfl) rfl (by kernel_rfl) (fun _ _ _ h => h) (Or.inl ⟨by rfl, ?_⟩) (by assumption) ?_
  rotate_left
  · intro w hSw; (try dsimp only at hSw); go_simp; (try with_reducible rfl)
  try simp only [Act.put, List.getElem_toArray, List.getElem_cons_succ, List.getElem_cons_zero, List.setIfInBounds_toArray, List.set_cons_zero, List.set_cons_succ]
  refine wpHd_take (i := 12) (v := doneV od (.slice dA od.data.length dc)) (by kernel_rfl) rfl (by kernel_rfl) (fun _ _ _ h => h) (Or.inl ⟨by rfl, ?_⟩) (by assumption) ?_
  · intro w hSw; (try dsimp only at hSw); go_simp; rfl
  try simp only [Act.put, List.getElem_toArray, List.getElem_cons_succ, List.getElem_cons_zero, List.setIfInBounds_toArray, List.set_cons_zero, List.set_cons_succ]
  refine wpHd_one (i := 13) rfl (by kernel_rfl) (fun K hK => ?_)
  go_simp
  skip
  refine hK.out _ _ ?_ (fun hSS => ?_)
  · refine ⟨?_, ?_, ?_, ?_, ?_, ?_, ?_, ?_, ?_, ?_, ?_, ?_, ?_⟩ <;> first | assumption | (refine Only.cell ((Only.refl Non W.drew).alloc _) ?_ id; assumption)
  clear hK
  try simp only [Act.put, List.getElem_toArray, List.getElem_cons_succ, List.getElem_cons_zero, List.setIfInBounds_toArray, List.set_cons_zero, List.set_cons_succ]
  refine wpHd_end (by kernel_rfl) ?_
  clear hSS
  go_upto_region 2 with (refine wpList_store_row rfl 33 _ _ rfl W.heap.size (doneC od (.slice dA od.data.length dc)) rfl rfl 33 _ (Box.fresh W.drew 33 zD) (by kernel_rfl) rfl (done_one od dA od.data.length dc) ?_)
  have ho2 : Only Non W ((W.drew.alloc (.cells zD 33)).setRow W.heap.size (doneC od (.slice dA od.data.length dc))) := (((Only.refl Non W).drew).alloc _).setRow' (.inr (Nat.le_refl _)) _
  have HZ2 := Lib.hid (show Box ((W.drew.alloc (.cells zD 33)).setRow W.heap.size (doneC od (.slice dA od.data.length dc))) W.heap.size 33 (doneC od (.slice dA od.data.length dc)) from (Box.fresh W.drew 33 zD).setRow' (doneC od (.slice dA od.data.length dc)))
  change Code.wp _ _ _ _ ((W.drew.alloc (.cells zD 33)).setRow W.heap.size (doneC od (.slice dA od.data.length dc)))
  generalize (W.drew.alloc (.cells zD 33)).setRow W.heap.size (doneC od (.slice dA od.data.length dc)) = W2 at *
  have HO2 := Lib.hid (HO.out.trans ho2)
  have HX2 := Lib.hid (ho2.box HX.out id)
  have H2 := Lib.hid (H.out.keep ho2)
  clear ho2 d0 d1 d2 d3 d4 d5 d6 d7 d8 d9 c0 c1 hcd Hc hc HO HX H
  generalize W.heap.size = zb at *
  have HX2d := Lib.hid (show Box W2.drew xb 48 #[.int .u64 x1, .int .i64 x2] from HX2.out)
  have HZ2d := Lib.hid (show Box W2.drew zb 33 (doneC od (.slice dA od.data.length dc)) from HZ2.out)
  have HO2d := Lib.hid (HO2.out.drew)
  have H2d := Lib.hid (H2.out.keep (Only.refl Non W2).drew)
  have HH := Lib.hid (has_any x1 i x2 hx (show i < 64 by omega) W2.drew)
  have e0 : W2.drew.cell? ⟨xb, 0, none⟩ = some (.int .u64 x1) := HX2d.out.cellAt rfl
  have e1 : W2.drew.cell? ⟨xb, 1, none⟩ = some (.int .i64 x2) := HX2d.out.cellAt rfl
  have e2 : W2.drew.cell? ⟨zb, 3, none⟩ = some (.bool od.write) := HZ2d.out.cellAt rfl
  have e3 : W2.drew.cell? ⟨zb, 5, none⟩ = some (.slice dA od.data.length dc) := HZ2d.out.cellAt rfl
  rcases hbq : x1.testBit i with _ | _
  · rw [hbq] at HH
    have Hbit := Lib.hid hbq
    clear hbq
    rcases hwq : od.write with _ | _
    · rw [hwq] at e2
      by_cases heq : od.data = valueD (osN l ps) size (x1, x2)
      · have Heq := Lib.hid heq
        have Hval := Lib.hid (show ((osN l ps).getD i default).write = true ∨ ((osN l ps).getD i default).data = valueD (osN l ps) size (x1, x2) from .inr (by rw [HOD2.out]; exact heq))
        have Hwq := Lib.hid hwq
        clear hwq heq
        refine wp_region_tail (S := (fun w' : World => w'.cell? ⟨xb, 0, none⟩ = some (.int .u64 x1) ∧ w'.cell? ⟨xb, 1, none⟩ = some (.int .i64 x2) ∧ w'.cell? ⟨zb, 3, none⟩ = some (.bool false) ∧ w'.cell? ⟨zb, 5, none⟩ = some (.slice dA od.data.length dc))) 16 (by kernel_rfl) (by kernel_rfl) ?_ ?_
        · refine ⟨?_, ?_, ?_, ?_⟩ <;> assumption
        intro hSS
        refine wpHd_take (i := 0) (v := stV (x1, x2)) (by kernel_rfl) rfl (by kernel_rfl) (fun _ _ _ h => h) (Or.inl ⟨by rfl, ?_⟩) (by assumption) ?_
        · intro w hSw; (try dsimp only at hSw); go_simp; rfl
        try simp only [Act.put, List.getElem_toArray, List.getElem_cons_succ, List.getElem_cons_zero, List.setIfInBounds_toArray, List.set_cons_zero, List.set_cons_succ]
        refine wpHd_take (i := 1) (v := ?_) (by kernel_rfl) rfl (by kernel_rfl) (fun _ _ _ h => h) (Or.inl ⟨by rfl, ?_⟩) (by assumption) ?_
        rotate_left
        · intro w hSw; (try dsimp only at hSw); go_simp; (try with_reducible rfl)
        try simp only [Act.put, List.getElem_toArray, List.getElem_cons_succ, List.getElem_cons_zero, List.setIfInBounds_toArray, List.set_cons_zero, List.set_cons_succ]
        refine wpHd_one (i := 2) rfl (by kernel_rfl) (fun K hK => ?_)
        go_simp
        refine HH.out.mono ?_
        rintro e w3 ⟨rfl, ho3⟩
        have HX3 := Lib.hid (ho3.box HX2d.out id)
        have HZ3 := Lib.hid (ho3.box HZ2d.out id)
        have H3 := Lib.hid (H2d.out.keep ho3)
        have HO3 := Lib.hid (HO2d.out.transN ho3)
        have f0 : w3.cell? ⟨xb, 0, none⟩ = some (.int .u64 x1) := HX3.out.cellAt rfl
        have f1 : w3.cell? ⟨xb, 1, none⟩ = some (.int .i64 x2) := HX3.out.cellAt rfl
        have f2 : w3.cell? ⟨zb, 3, none⟩ = some (.bool false) := by rw [← Hwq.out]; exact HZ3.out.cellAt rfl
        have f3 : w3.cell? ⟨zb, 5, none⟩ = some (.slice dA od.data.length dc) := HZ3.out.cellAt rfl
        clear ho3
        refine hK.out _ _ ?_ (fun hSS => ?_)
        · refine ⟨?_, ?_, ?_, ?_⟩ <;> assumption
        clear hK
        try simp only [Act.put, List.getElem_toArray, List.getElem_cons_succ, List.getElem_cons_zero, List.setIfInBounds_toArray, List.set_cons_zero, List.set_cons_succ]
        refine wpHd_take (i := 3) (v := ?_) (by kernel_rfl) rfl (by kernel_rfl) (fun _ _ _ h => h) (Or.inl ⟨by rfl, ?_⟩) (by assumption) ?_
        rotate_left
        · intro w hSw; (try dsimp only at hSw); go_simp; (try with_reducible rfl)
        try simp only [Act.put, List.getElem_toArray, List.getElem_cons_succ, List.getElem_cons_zero, List.setIfInBounds_toArray, List.set_cons_zero, List.set_cons_succ]
        refine wpHd_take (i := 4) (v := ?_) (by kernel_rfl) rfl (by kernel_rfl) (fun _ _ _ h => h) (Or.inl ⟨by rfl, ?_⟩) (by assumption) ?_
        rotate_left
        · intro w hSw; (try dsimp only at hSw); go_simp; (try with_reducible rfl)
        try simp only [Act.put, List.getElem_toArray, List.getElem_cons_succ, List.getElem_cons_zero, List.setIfInBounds_toArray, List.set_cons_zero, List.set_cons_succ]
        refine wpHd_take (i := 5) (v := ?_) (by kernel_rfl) rfl (by kernel_rfl) (fun _ _ _ h => h) (Or.inl ⟨by rfl, ?_⟩) (by assumption) ?_
        rotate_left
        · intro w hSw; (try dsimp only at hSw); go_simp; (try with_reducible rfl)
        try simp only [Act.put, List.getElem_toArray, List.getElem_cons_succ, List.getElem_cons_zero, List.setIfInBounds_toArray, List.set_cons_zero, List.set_cons_succ]
        refine wpHd_take (i := 6) (v := ?_) (by kernel_rfl) rfl (by kernel_rfl) (fun _ _ _ h => h) (Or.inl ⟨by rfl, ?_⟩) (by assumption) ?_
        rotate_left
        · intro w hSw; (try dsimp only at hSw); go_simp; (try with_reducible rfl)
        try simp only [Act.put, List.getElem_toArray, List.getElem_cons_succ, List.getElem_cons_zero, List.setIfInBounds_toArray, List.set_cons_zero, List.set_cons_succ]
        refine wpHd_take (i := 7) (v := ?_) (by kernel_rfl) rfl (by kernel_rfl) (fun _ _ _ h => h) (Or.inl ⟨by rfl, ?_⟩) (by assumption) ?_
        rotate_left
        · intro w hSw; (try dsimp only at hSw); go_simp; (try with_reducible rfl)
        try simp only [Act.put, List.getElem_toArray, List.getElem_cons_succ, List.getElem_cons_zero, List.setIfInBounds_toArray, List.set_cons_zero, List.set_cons_succ]
        refine wpHd_take (i := 8) (v := ?_) (by kernel_rfl) rfl (by kernel_rfl) (fun _ _ _ h => h) (Or.inl ⟨by rfl, ?_⟩) (by assumption) ?_
        rotate_left
        · intro w hSw; (try dsimp only at hSw); go_simp; (try with_reducible rfl)
        try simp only [Act.put, List.getElem_toArray, List.getElem_cons_succ, List.getElem_cons_zero, List.setIfInBounds_toArray, List.set_cons_zero, List.set_cons_succ]
        refine wpHd_take (i := 9) (v := ?_) (by kernel_rfl) rfl (by kernel_rfl) (fun _ _ _ h => h) (Or.inl ⟨by rfl, ?_⟩) (by assumption) ?_
        rotate_left
        · intro w hSw; (try dsimp only at hSw); go_simp; (try with_reducible rfl)
        try simp only [Act.put, List.getElem_toArray, List.getElem_cons_succ, List.getElem_cons_zero, List.setIfInBounds_toArray, List.set_cons_zero, List.set_cons_succ]
        refine wpHd_take (i := 10) (v := ?_) (by kernel_rfl) rfl (by kernel_rfl) (fun _ _ _ h => h) (Or.inl ⟨by rfl, ?_⟩) (by assumption) ?_
        rotate_left
        · intro w hSw; (try dsimp only at hSw); go_simp; (try with_reducible rfl)
        try simp only [Act.put, List.getElem_toArray, List.getElem_cons_succ, List.getElem_cons_zero, List.setIfInBounds_toArray, List.set_cons_zero, List.set_cons_succ]
        refine wpHd_take (i := 11) (v := stV (x1, x2)) (by kernel_rfl) rfl (by kernel_rfl) (fun _ _ _ h => h) (Or.inl ⟨by rfl, ?_⟩) (by assumption) ?_
        · intro w hSw; (try dsimp only at hSw); go_simp; rfl
        try simp only [Act.put, List.getElem_toArray, List.getElem_cons_succ, List.getElem_cons_zero, List.setIfInBounds_toArray, List.set_cons_zero, List.set_cons_succ]
        refine wpHd_one (i := 12) rfl (by kernel_rfl) (fun K hK => ?_)
        go_simp
        refine (value_any H3.out (x1, x2) hl).mono ?_
        rintro e w4 ⟨v4, rfl, hby4, ho4⟩
        have HX4 := Lib.hid (ho4.box HX3.out id)
        have HZ4 := Lib.hid (ho4.box HZ3.out id)
        have H4 := Lib.hid (H3.out.keep ho4)
        have HO4 := Lib.hid (HO3.out.transN ho4)
        have j0 : w4.cell? ⟨xb, 0, none⟩ = some (.int .u64 x1) := HX4.out.cellAt rfl
        have j1 : w4.cell? ⟨xb, 1, none⟩ = some (.int .i64 x2) := HX4.out.cellAt rfl
        have j2 : w4.cell? ⟨zb, 3, none⟩ = some (.bool false) := by rw [← Hwq.out]; exact HZ4.out.cellAt rfl
        have j3 : w4.cell? ⟨zb, 5, none⟩ = some (.slice dA od.data.length dc) := HZ4.out.cellAt rfl
        have HBY4 := Lib.hid hby4
        have HE := Lib.hid (same_any (.slice dA od.data.length dc) v4 od.data (valueD (osN l ps) size (x1, x2)) w4 (H4.out.data_at hi HOD.out) hby4)
        rw [decide_eq_true Heq.out] at HE
        obtain ⟨Av, cv, rfl, _⟩ := hby4
        clear ho4
        refine hK.out _ _ ?_ (fun hSS => ?_)
        · refine ⟨?_, ?_, ?_, ?_⟩ <;> assumption
        clear hK
        try simp only [Act.put, List.getElem_toArray, List.getElem_cons_succ, List.getElem_cons_zero, List.setIfInBounds_toArray, List.set_cons_zero, List.set_cons_succ]
        refine wpHd_one (i := 13) rfl (by kernel_rfl) (fun K hK => ?_)
        go_simp
        refine HE.out.mono ?_
        rintro e w5 ⟨rfl, m5, em5⟩
        have ho5 : Only Non w4 w5 := by rw [← em5]; exact (Only.refl _ _).drewN _
        clear em5
        have HX5 := Lib.hid (ho5.box HX4.out id)
        have HZ5 := Lib.hid (ho5.box HZ4.out id)
        have H5 := Lib.hid (H4.out.keep ho5)
        have HO5 := Lib.hid (HO4.out.transN ho5)
        have q0 : w5.cell? ⟨xb, 0, none⟩ = some (.int .u64 x1) := HX5.out.cellAt rfl
        have q1 : w5.cell? ⟨xb, 1, none⟩ = some (.int .i64 x2) := HX5.out.cellAt rfl
        have q2 : w5.cell? ⟨zb, 3, none⟩ = some (.bool false) := by rw [← Hwq.out]; exact HZ5.out.cellAt rfl
        have q3 : w5.cell? ⟨zb, 5, none⟩ = some (.slice dA od.data.length dc) := HZ5.out.cellAt rfl
        clear ho5
        refine hK.out _ _ ?_ (fun hSS => ?_)
        · refine ⟨?_, ?_, ?_, ?_⟩ <;> assumption
        clear hK
        try simp only [Act.put, List.getElem_toArray, List.getElem_cons_succ, List.getElem_cons_zero, List.setIfInBounds_toArray, List.set_cons_zero, List.set_cons_succ]
        refine wpHd_take (i := 14) (v := ?_) (by kernel_rfl) rfl (by kernel_rfl) (fun _ _ _ h => h) (Or.inl ⟨by rfl, ?_⟩) (by assumption) ?_
        rotate_left
        · intro w hSw; (try dsimp only at hSw); go_simp; (try with_reducible rfl)
        try simp only [Act.put, List.getElem_toArray, List.getElem_cons_succ, List.getElem_cons_zero, List.setIfInBounds_toArray, List.set_cons_zero, List.set_cons_succ]
        refine wpHd_take (i := 15) (v := ?_) (by kernel_rfl) rfl (by kernel_rfl) (fun _ _ _ h => h) (Or.inl ⟨by rfl, ?_⟩) (by assumption) ?_
        rotate_left
        · intro w hSw; (try dsimp only at hSw); go_simp; (try with_reducible rfl)
        try simp only [Act.put, List.getElem_toArray, List.getElem_cons_succ, List.getElem_cons_zero, List.setIfInBounds_toArray, List.set_cons_zero, List.set_cons_succ]
        refine wpHd_end (by kernel_rfl) ?_
        clear hSS
        go_upto_region 4 with fail
        have c1 : w5.cell? ⟨sb, 1, none⟩ = some (.slice (some ⟨g, o, none⟩) ps.length cc) := H5.out.box.cellAt rfl
        go_wp2_with fail
        clear c1
        go_loopw [46] (fun i wr => FrRel (osN l ps) x1 od.fr w5 i wr) (fun i _ => ps.length - (intOf i).toNat)
        case atStart => exact ⟨0, Nat.zero_le _, rfl, fun j hj => absurd hj (Nat.not_lt_zero _), Only.refl _ _⟩
        case round =>
          obtain ⟨k, hk, rfl, hall, ho⟩ := hrel
          rw [Hol.out] at hk
          have Hall := Lib.hid hall
          have HX6 := Lib.hid (ho.box HX5.out id)
          have HZ6 := Lib.hid (ho.box HZ5.out id)
          have H6 := Lib.hid (H5.out.keep ho)
          have HO6 := Lib.hid ho
          clear hall ho
          by_cases hlt : k < ps.length
          · obtain ⟨p2, hp2, hpl2, hos2, B2, cc2, eav2, g2, o2, eB2, hc2⟩ := H6.out.place hlt
            injection eav2 with e1 _ e2
            rw [← e1] at eB2
            injection eB2 with eB2
            injection eB2 with e3 e4
            subst e3 e4
            clear e1 e2 hp2
            obtain ⟨g4, o4, dA2, dc2, eA, hg4, hcells, hby2⟩ := H6.out.done.at_ p2 hpl2
            injection eA with eA
            injection eA with e5 e6
            subst e5 e6
            have Hos2 := Lib.hid hos2
            clear hos2 hby2
            generalize l.getD p2 default = oe at *
            obtain ⟨d0, d1, d2, d3, d4, d5, d6, d7, d8, d9⟩ := tenAt hcells
            clear hcells
            have c0 : wr.cell? ⟨sb, 0, none⟩ = some (.slice (some ⟨g', o', none⟩) l.length c) := H6.out.box.cellAt rfl
            have hki : (k : Int) < ps.length := by omega
            have hpi : (p2 : Int) < l.length := by omega
            have Hlt := Lib.hid hlt
            clear hlt
            go_upto_region 8 with (refine wpList_store_row rfl 33 _ _ rfl wr.heap.size (doneC oe (.slice dA2 oe.data.length dc2)) rfl rfl 33 _ (Box.fresh wr 33 zD) (by kernel_rfl) rfl (done_one oe dA2 oe.data.length dc2) ?_)
            have ho7 : Only Non wr ((wr.alloc (.cells zD 33)).setRow wr.heap.size (doneC oe (.slice dA2 oe.data.length dc2))) := ((Only.refl Non wr).alloc _).setRow' (.inr (Nat.le_refl _)) _
            have HY7 := Lib.hid ((Box.fresh wr 33 zD).setRow' (doneC oe (.slice dA2 oe.data.length dc2)))
            change Code.wp _ _ _ _ ((wr.alloc (.cells zD 33)).setRow wr.heap.size (doneC oe (.slice dA2 oe.data.length dc2)))
            generalize (wr.alloc (.cells zD 33)).setRow wr.heap.size (doneC oe (.slice dA2 oe.data.length dc2)) = W7 at *
            have HO7 := Lib.hid (HO6.out.trans ho7)
            have HX7 := Lib.hid (ho7.box HX6.out id)
            have HZ7 := Lib.hid (ho7.box HZ6.out id)
            clear ho7 d0 d1 d2 d3 d4 d5 d6 d7 d8 d9 c0
            generalize wr.heap.size = yb at *
            have HH2 := Lib.hid (has_any x1 k x2 hx (show k < 64 by have := Hlt.out; omega) W7)
            have a0 : W7.cell? ⟨xb, 0, none⟩ = some (.int .u64 x1) := HX7.out.cellAt rfl
            have a1 : W7.cell? ⟨xb, 1, none⟩ = some (.int .i64 x2) := HX7.out.cellAt rfl
            rcases hbq : x1.testBit k with _ | _
            · rw [hbq] at HH2
              have Hbq := Lib.hid hbq
              clear hbq
              have HM := fun w => must_any oe dA2 oe.data.length dc2 w
              rcases hmq : mustD oe with _ | _
              · rw [hmq] at HM
                have HM := Lib.hid HM
                have Hmq := Lib.hid hmq
                clear hmq
                go_wp2_with fail
                refine HH2.out.mono ?_
                rintro e w8 ⟨rfl, ho8⟩
                have HO8 := Lib.hid (HO7.out.trans ho8)
                have HY8 := Lib.hid (ho8.box HY7.out id)
                clear ho8 a0 a1
                obtain ⟨y0, y1, y2, y3, y4, y5, y6, y7, y8, y9⟩ := HY8.out.ten
                go_wp2_with fail
                refine (HM.out w8).mono ?_
                rintro e w9 ⟨rfl, ho9⟩
                have HO9 := Lib.hid (HO8.out.trans ho9)
                clear ho9
                go_wp2
                have hall' : ∀ j, j < k + 1 → x1.testBit j = false → mustD ((osN l ps).getD j default) = true → ¬ ((osN l ps).getD j default).to < od.fr := fun j hj hb hm => by
                  rcases Nat.lt_or_ge j k with h | h
                  · have := Hall.out j h hb hm; omega
                  · obtain rfl : j = k := by omega
                    rw [Hos2.out, Hmq.out] at hm; cases hm
                exact ⟨⟨k + 1, by rw [Hol.out]; exact Hlt.out, by simp, hall', HO9.out⟩, by have := Hlt.out; simp [intOf]; omega⟩
              · rw [hmq] at HM
                have HM := Lib.hid HM
                have Hmq := Lib.hid hmq
                clear hmq
                go_wp2_with fail
                refine HH2.out.mono ?_
                rintro e w8 ⟨rfl, ho8⟩
                have HO8 := Lib.hid (HO7.out.trans ho8)
                have HY8 := Lib.hid (ho8.box HY7.out id)
                have HZ8 := Lib.hid (ho8.box HZ7.out id)
                clear ho8 a0 a1
                obtain ⟨y0, y1, y2, y3, y4, y5, y6, y7, y8, y9⟩ := HY8.out.ten
                go_wp2_with fail
                refine (HM.out w8).mono ?_
                rintro e w9 ⟨rfl, ho9⟩
                have HO9 := Lib.hid (HO8.out.trans ho9)
                have z8 : w9.cell? ⟨yb, 8, none⟩ = some (.int .i64 oe.to) := (ho9.box HY8.out id).cellAt rfl
                have z7 : w9.cell? ⟨zb, 7, none⟩ = some (.int .i64 od.fr) := (ho9.box HZ8.out id).cellAt rfl
                clear ho9 y0 y1 y2 y3 y4 y5 y6 y7 y8 y9
                by_cases htf : oe.to < od.fr
                · have hd : decide (freeD (osN l ps) size (x1, x2) i) = false := decide_eq_false fun h => h.2.2 k (by rw [Hol.out]; exact Hlt.out) Hbq.out (by rw [Hos2.out]; exact Hmq.out) (by rw [Hos2.out, HOD2.out]; exact htf)
                  have Hd := Lib.hid hd
                  clear hd
                  go_wp2_with fail
                  go_ret
                  exact ⟨by rw [Hd.out]; rfl, HO5.out.transN HO9.out⟩
                · go_wp2
                  have hall' : ∀ j, j < k + 1 → x1.testBit j = false → mustD ((osN l ps).getD j default) = true → ¬ ((osN l ps).getD j default).to < od.fr := fun j hj hb hm => by
                    rcases Nat.lt_or_ge j k with h | h
                    · have := Hall.out j h hb hm; omega
                    · obtain rfl : j = k := by omega
                      rw [Hos2.out]; omega
                  exact ⟨⟨k + 1, by rw [Hol.out]; exact Hlt.out, by simp, hall', HO9.out⟩, by have := Hlt.out; simp [intOf]; omega⟩
            · rw [hbq] at HH2
              have Hbq := Lib.hid hbq
              clear hbq
              go_wp2_with fail
              refine HH2.out.mono ?_
              rintro e w8 ⟨rfl, ho8⟩
              have HO8 := Lib.hid (HO7.out.trans ho8)
              clear ho8 a0 a1
              go_wp2
              have hall' : ∀ j, j < k + 1 → x1.testBit j = false → mustD ((osN l ps).getD j default) = true → ¬ ((osN l ps).getD j default).to < od.fr := fun j hj hb hm => by
                rcases Nat.lt_or_ge j k with h | h
                · have := Hall.out j h hb hm; omega
                · obtain rfl : j = k := by omega
                  rw [Hbq.out] at hb; cases hb
              exact ⟨⟨k + 1, by rw [Hol.out]; exact Hlt.out, by simp, hall', HO8.out⟩, by have := Hlt.out; simp [intOf]; omega⟩
          · obtain rfl : k = ps.length := by omega
            have hd : decide (freeD (osN l ps) size (x1, x2) i) = true := decide_eq_true ⟨Hbit.out, Hval.out, fun j hj hb hm => by rw [HOD2.out]; have := Hall.out j (by rwa [Hol.out] at hj) hb hm; omega⟩
            have Hd := Lib.hid hd
            clear hd hlt
            go_wp2_with fail
            go_ret
            exact ⟨by rw [Hd.out]; rfl, HO5.out.transN HO6.out⟩
      · have Heq := Lib.hid heq
        have hd : decide (freeD (osN l ps) size (x1, x2) i) = false := decide_eq_false fun h => by
          rcases h.2.1 with h | h
          · rw [HOD2.out, hwq] at h; cases h
          · rw [HOD2.out] at h; exact heq h
        have Hd := Lib.hid hd
        have Hwq := Lib.hid hwq
        clear hwq heq hd
        refine wp_region_tail (S := (fun w' : World => w'.cell? ⟨xb, 0, none⟩ = some (.int .u64 x1) ∧ w'.cell? ⟨xb, 1, none⟩ = some (.int .i64 x2) ∧ w'.cell? ⟨zb, 3, none⟩ = some (.bool false) ∧ w'.cell? ⟨zb, 5, none⟩ = some (.slice dA od.data.length dc))) 16 (by kernel_rfl) (by kernel_rfl) ?_ ?_
        · refine ⟨?_, ?_, ?_, ?_⟩ <;> assumption
        intro hSS
        refine wpHd_take (i := 0) (v := stV (x1, x2)) (by kernel_rfl) rfl (by kernel_rfl) (fun _ _ _ h => h) (Or.inl ⟨by rfl, ?_⟩) (by assumption) ?_
        · intro w hSw; (try dsimp only at hSw); go_simp; rfl
        try simp only [Act.put, List.getElem_toArray, List.getElem_cons_succ, List.getElem_cons_zero, List.setIfInBounds_toArray, List.set_cons_zero, List.set_cons_succ]
        refine wpHd_take (i := 1) (v := ?_) (by kernel_rfl) rfl (by kernel_rfl) (fun _ _ _ h => h) (Or.inl ⟨by rfl, ?_⟩) (by assumption) ?_
        rotate_left
        · intro w hSw; (try dsimp only at hSw); go_simp; (try with_reducible rfl)
        try simp only [Act.put, List.getElem_toArray, List.getElem_cons_succ, List.getElem_cons_zero, List.setIfInBounds_toArray, List.set_cons_zero, List.set_cons_succ]
        refine wpHd_one (i := 2) rfl (by kernel_rfl) (fun K hK => ?_)
        go_simp
        refine HH.out.mono ?_
        rintro e w3 ⟨rfl, ho3⟩
        have HX3 := Lib.hid (ho3.box HX2d.out id)
        have HZ3 := Lib.hid (ho3.box HZ2d.out id)
        have H3 := Lib.hid (H2d.out.keep ho3)
        have HO3 := Lib.hid (HO2d.out.transN ho3)
        have f0 : w3.cell? ⟨xb, 0, none⟩ = some (.int .u64 x1) := HX3.out.cellAt rfl
        have f1 : w3.cell? ⟨xb, 1, none⟩ = some (.int .i64 x2) := HX3.out.cellAt rfl
        have f2 : w3.cell? ⟨zb, 3, none⟩ = some (.bool false) := by rw [← Hwq.out]; exact HZ3.out.cellAt rfl
        have f3 : w3.cell? ⟨zb, 5, none⟩ = some (.slice dA od.data.length dc) := HZ3.out.cellAt rfl
        clear ho3
        refine hK.out _ _ ?_ (fun hSS => ?_)
        · refine ⟨?_, ?_, ?_, ?_⟩ <;> assumption
        clear hK
        try simp only [Act.put, List.getElem_toArray, List.getElem_cons_succ, List.getElem_cons_zero, List.setIfInBounds_toArray, List.set_cons_zero, List.set_cons_succ]
        refine wpHd_take (i := 3) (v := ?_) (by kernel_rfl) rfl (by kernel_rfl) (fun _ _ _ h => h) (Or.inl ⟨by rfl, ?_⟩) (by assumption) ?_
        rotate_left
        · intro w hSw; (try dsimp only at hSw); go_simp; (try with_reducible rfl)
        try simp only [Act.put, List.getElem_toArray, List.getElem_cons_succ, List.getElem_cons_zero, List.setIfInBounds_toArray, List.set_cons_zero, List.set_cons_succ]
        refine wpHd_take (i := 4) (v := ?_) (by kernel_rfl) rfl (by kernel_rfl) (fun _ _ _ h => h) (Or.inl ⟨by rfl, ?_⟩) (by assumption) ?_
        rotate_left
        · intro w hSw; (try dsimp only at hSw); go_simp; (try with_reducible rfl)
        try simp only [Act.put, List.getElem_toArray, List.getElem_cons_succ, List.getElem_cons_zero, List.setIfInBounds_toArray, List.set_cons_zero, List.set_cons_succ]
        refine wpHd_take (i := 5) (v := ?_) (by kernel_rfl) rfl (by kernel_rfl) (fun _ _ _ h => h) (Or.inl ⟨by rfl, ?_⟩) (by assumption) ?_
        rotate_left
        · intro w hSw; (try dsimp only at hSw); go_simp; (try with_reducible rfl)
        try simp only [Act.put, List.getElem_toArray, List.getElem_cons_succ, List.getElem_cons_zero, List.setIfInBounds_toArray, List.set_cons_zero, List.set_cons_succ]
        refine wpHd_take (i := 6) (v := ?_) (by kernel_rfl) rfl (by kernel_rfl) (fun _ _ _ h => h) (Or.inl ⟨by rfl, ?_⟩) (by assumption) ?_
        rotate_left
        · intro w hSw; (try dsimp only at hSw); go_simp; (try with_reducible rfl)
        try simp only [Act.put, List.getElem_toArray, List.getElem_cons_succ, List.getElem_cons_zero, List.setIfInBounds_toArray, List.set_cons_zero, List.set_cons_succ]
        refine wpHd_take (i := 7) (v := ?_) (by kernel_rfl) rfl (by kernel_rfl) (fun _ _ _ h => h) (Or.inl ⟨by rfl, ?_⟩) (by assumption) ?_
        rotate_left
        · intro w hSw; (try dsimp only at hSw); go_simp; (try with_reducible rfl)
        try simp only [Act.put, List.getElem_toArray, List.getElem_cons_succ, List.getElem_cons_zero, List.setIfInBounds_toArray, List.set_cons_zero, List.set_cons_succ]
        refine wpHd_take (i := 8) (v := ?_) (by kernel_rfl) rfl (by kernel_rfl) (fun _ _ _ h => h) (Or.inl ⟨by rfl, ?_⟩) (by assumption) ?_
        rotate_left
        · intro w hSw; (try dsimp only at hSw); go_simp; (try with_reducible rfl)
        try simp only [Act.put, List.getElem_toArray, List.getElem_cons_succ, List.getElem_cons_zero, List.setIfInBounds_toArray, List.set_cons_zero, List.set_cons_succ]
        refine wpHd_take (i := 9) (v := ?_) (by kernel_rfl) rfl (by kernel_rfl) (fun _ _ _ h => h) (Or.inl ⟨by rfl, ?_⟩) (by assumption) ?_
        rotate_left
        · intro w hSw; (try dsimp only at hSw); go_simp; (try with_reducible rfl)
        try simp only [Act.put, List.getElem_toArray, List.getElem_cons_succ, List.getElem_cons_zero, List.setIfInBounds_toArray, List.set_cons_zero, List.set_cons_succ]
        refine wpHd_take (i := 10) (v := ?_) (by kernel_rfl) rfl (by kernel_rfl) (fun _ _ _ h => h) (Or.inl ⟨by rfl, ?_⟩) (by assumption) ?_
        rotate_left
        · intro w hSw; (try dsimp only at hSw); go_simp; (try with_reducible rfl)
        try simp only [Act.put, List.getElem_toArray, List.getElem_cons_succ, List.getElem_cons_zero, List.setIfInBounds_toArray, List.set_cons_zero, List.set_cons_succ]
        refine wpHd_take (i := 11) (v := stV (x1, x2)) (by kernel_rfl) rfl (by kernel_rfl) (fun _ _ _ h => h) (Or.inl ⟨by rfl, ?_⟩) (by assumption) ?_
        · intro w hSw; (try dsimp only at hSw); go_simp; rfl
        try simp only [Act.put, List.getElem_toArray, List.getElem_cons_succ, List.getElem_cons_zero, List.setIfInBounds_toArray, List.set_cons_zero, List.set_cons_succ]
        refine wpHd_one (i := 12) rfl (by kernel_rfl) (fun K hK => ?_)
        go_simp
        refine (value_any H3.out (x1, x2) hl).mono ?_
        rintro e w4 ⟨v4, rfl, hby4, ho4⟩
        have HX4 := Lib.hid (ho4.box HX3.out id)
        have HZ4 := Lib.hid (ho4.box HZ3.out id)
        have H4 := Lib.hid (H3.out.keep ho4)
        have HO4 := Lib.hid (HO3.out.transN ho4)
        have j0 : w4.cell? ⟨xb, 0, none⟩ = some (.int .u64 x1) := HX4.out.cellAt rfl
        have j1 : w4.cell? ⟨xb, 1, none⟩ = some (.int .i64 x2) := HX4.out.cellAt rfl
        have j2 : w4.cell? ⟨zb, 3, none⟩ = some (.bool false) := by rw [← Hwq.out]; exact HZ4.out.cellAt rfl
        have j3 : w4.cell? ⟨zb, 5, none⟩ = some (.slice dA od.data.length dc) := HZ4.out.cellAt rfl
        have HBY4 := Lib.hid hby4
        have HE := Lib.hid (same_any (.slice dA od.data.length dc) v4 od.data (valueD (osN l ps) size (x1, x2)) w4 (H4.out.data_at hi HOD.out) hby4)
        rw [decide_eq_false Heq.out] at HE
        obtain ⟨Av, cv, rfl, _⟩ := hby4
        clear ho4
        refine hK.out _ _ ?_ (fun hSS => ?_)
        · refine ⟨?_, ?_, ?_, ?_⟩ <;> assumption
        clear hK
        try simp only [Act.put, List.getElem_toArray, List.getElem_cons_succ, List.getElem_cons_zero, List.setIfInBounds_toArray, List.set_cons_zero, List.set_cons_succ]
        refine wpHd_one (i := 13) rfl (by kernel_rfl) (fun K hK => ?_)
        go_simp
        refine HE.out.mono ?_
        rintro e w5 ⟨rfl, m5, em5⟩
        have ho5 : Only Non w4 w5 := by rw [← em5]; exact (Only.refl _ _).drewN _
        clear em5
        have HX5 := Lib.hid (ho5.box HX4.out id)
        have HZ5 := Lib.hid (ho5.box HZ4.out id)
        have H5 := Lib.hid (H4.out.keep ho5)
        have HO5 := Lib.hid (HO4.out.transN ho5)
        have q0 : w5.cell? ⟨xb, 0, none⟩ = some (.int .u64 x1) := HX5.out.cellAt rfl
        have q1 : w5.cell? ⟨xb, 1, none⟩ = some (.int .i64 x2) := HX5.out.cellAt rfl
        have q2 : w5.cell? ⟨zb, 3, none⟩ = some (.bool false) := by rw [← Hwq.out]; exact HZ5.out.cellAt rfl
        have q3 : w5.cell? ⟨zb, 5, none⟩ = some (.slice dA od.data.length dc) := HZ5.out.cellAt rfl
        clear ho5
        refine hK.out _ _ ?_ (fun hSS => ?_)
        · refine ⟨?_, ?_, ?_, ?_⟩ <;> assumption
        clear hK
        try simp only [Act.put, List.getElem_toArray, List.getElem_cons_succ, List.getElem_cons_zero, List.setIfInBounds_toArray, List.set_cons_zero, List.set_cons_succ]
        refine wpHd_take (i := 14) (v := ?_) (by kernel_rfl) rfl (by kernel_rfl) (fun _ _ _ h => h) (Or.inl ⟨by rfl, ?_⟩) (by assumption) ?_
        rotate_left
        · intro w hSw; (try dsimp only at hSw); go_simp; (try with_reducible rfl)
        try simp only [Act.put, List.getElem_toArray, List.getElem_cons_succ, List.getElem_cons_zero, List.setIfInBounds_toArray, List.set_cons_zero, List.set_cons_succ]
        refine wpHd_take (i := 15) (v := ?_) (by kernel_rfl) rfl (by kernel_rfl) (fun _ _ _ h => h) (Or.inl ⟨by rfl, ?_⟩) (by assumption) ?_
        rotate_left
        · intro w hSw; (try dsimp only at hSw); go_simp; (try with_reducible rfl)
        try simp only [Act.put, List.getElem_toArray, List.getElem_cons_succ, List.getElem_cons_zero, List.setIfInBounds_toArray, List.set_cons_zero, List.set_cons_succ]
        refine wpHd_end (by kernel_rfl) ?_
        clear hSS
        go_wp2_with fail
        go_ret
        exact ⟨by rw [Hd.out]; rfl, HO5.out⟩
    · rw [hwq] at e2
      have Hval := Lib.hid (show ((osN l ps).getD i default).write = true ∨ ((osN l ps).getD i default).data = valueD (osN l ps) size (x1, x2) from .inl (by rw [HOD2.out]; exact hwq))
      have Hwq := Lib.hid hwq
      clear hwq
      refine wp_region_tail (S := (fun w' : World => w'.cell? ⟨xb, 0, none⟩ = some (.int .u64 x1) ∧ w'.cell? ⟨xb, 1, none⟩ = some (.int .i64 x2) ∧ w'.cell? ⟨zb, 3, none⟩ = some (.bool true) ∧ w'.cell? ⟨zb, 5, none⟩ = some (.slice dA od.data.length dc))) 16 (by kernel_rfl) (by kernel_rfl) ?_ ?_
      · refine ⟨?_, ?_, ?_, ?_⟩ <;> assumption
      intro hSS
      refine wpHd_take (i := 0) (v := stV (x1, x2)) (by kernel_rfl) rfl (by kernel_rfl) (fun _ _ _ h => h) (Or.inl ⟨by rfl, ?_⟩) (by assumption) ?_
      · intro w hSw; (try dsimp only at hSw); go_simp; rfl
      try simp only [Act.put, List.getElem_toArray, List.getElem_cons_succ, List.getElem_cons_zero, List.setIfInBounds_toArray, List.set_cons_zero, List.set_cons_succ]
      refine wpHd_take (i := 1) (v := ?_) (by kernel_rfl) rfl (by kernel_rfl) (fun _ _ _ h => h) (Or.inl ⟨by rfl, ?_⟩) (by assumption) ?_
      rotate_left
      · intro w hSw; (try dsimp only at hSw); go_simp; (try with_reducible rfl)
      try simp only [Act.put, List.getElem_toArray, List.getElem_cons_succ, List.getElem_cons_zero, List.setIfInBounds_toArray, List.set_cons_zero, List.set_cons_succ]
      refine wpHd_one (i := 2) rfl (by kernel_rfl) (fun K hK => ?_)
      go_simp
      refine HH.out.mono ?_
      rintro e w3 ⟨rfl, ho3⟩
      have HX3 := Lib.hid (ho3.box HX2d.out id)
      have HZ3 := Lib.hid (ho3.box HZ2d.out id)
      have H3 := Lib.hid (H2d.out.keep ho3)
      have HO3 := Lib.hid (HO2d.out.transN ho3)
      have f0 : w3.cell? ⟨xb, 0, none⟩ = some (.int .u64 x1) := HX3.out.cellAt rfl
      have f1 : w3.cell? ⟨xb, 1, none⟩ = some (.int .i64 x2) := HX3.out.cellAt rfl
      have f2 : w3.cell? ⟨zb, 3, none⟩ = some (.bool true) := by rw [← Hwq.out]; exact HZ3.out.cellAt rfl
      have f3 : w3.cell? ⟨zb, 5, none⟩ = some (.slice dA od.data.length dc) := HZ3.out.cellAt rfl
      clear ho3
      refine hK.out _ _ ?_ (fun hSS => ?_)
      · refine ⟨?_, ?_, ?_, ?_⟩ <;> assumption
      clear hK
      try simp only [Act.put, List.getElem_toArray, List.getElem_cons_succ, List.getElem_cons_zero, List.setIfInBounds_toArray, List.set_cons_zero, List.set_cons_succ]
      refine wpHd_take (i := 3) (v := ?_) (by kernel_rfl) rfl (by kernel_rfl) (fun _ _ _ h => h) (Or.inl ⟨by rfl, ?_⟩) (by assumption) ?_
      rotate_left
      · intro w hSw; (try dsimp only at hSw); go_simp; (try with_reducible rfl)
      try simp only [Act.put, List.getElem_toArray, List.getElem_cons_succ, List.getElem_cons_zero, List.setIfInBounds_toArray, List.set_cons_zero, List.set_cons_succ]
      refine wpHd_take (i := 4) (v := ?_) (by kernel_rfl) rfl (by kernel_rfl) (fun _ _ _ h => h) (Or.inl ⟨by rfl, ?_⟩) (by assumption) ?_
      rotate_left
      · intro w hSw; (try dsimp only at hSw); go_simp; (try with_reducible rfl)
      try simp only [Act.put, List.getElem_toArray, List.getElem_cons_succ, List.getElem_cons_zero, List.setIfInBounds_toArray, List.set_cons_zero, List.set_cons_succ]
      refine wpHd_take (i := 5) (v := ?_) (by kernel_rfl) rfl (by kernel_rfl) (fun _ _ _ h => h) (Or.inl ⟨by rfl, ?_⟩) (by assumption) ?_
      rotate_left
      · intro w hSw; (try dsimp only at hSw); go_simp; (try with_reducible rfl)
      try simp only [Act.put, List.getElem_toArray, List.getElem_cons_succ, List.getElem_cons_zero, List.setIfInBounds_toArray, List.set_cons_zero, List.set_cons_succ]
      refine wpHd_take (i := 6) (v := ?_) (by kernel_rfl) rfl (by kernel_rfl) (fun _ _ _ h => h) (Or.inl ⟨by rfl, ?_⟩) (by assumption) ?_
      rotate_left
      · intro w hSw; (try dsimp only at hSw); go_simp; (try with_reducible rfl)
      try simp only [Act.put, List.getElem_toArray, List.getElem_cons_succ, List.getElem_cons_zero, List.setIfInBounds_toArray, List.set_cons_zero, List.set_cons_succ]
      refine wpHd_take (i := 7) (v := ?_) (by kernel_rfl) rfl (by kernel_rfl) (fun _ _ _ h => h) (Or.inl ⟨by rfl, ?_⟩) (by assumption) ?_
      rotate_left
      · intro w hSw; (try dsimp only at hSw); go_simp; (try with_reducible rfl)
      try simp only [Act.put, List.getElem_toArray, List.getElem_cons_succ, List.getElem_cons_zero, List.setIfInBounds_toArray, List.set_cons_zero, List.set_cons_succ]
      refine wpHd_take (i := 8) (v := undef) (by kernel_rfl) rfl (by kernel_rfl) (fun _ _ _ h => h) (Or.inr ⟨by rfl, rfl⟩) (by assumption) ?_
      try simp only [Act.put, List.getElem_toArray, List.getElem_cons_succ, List.getElem_cons_zero, List.setIfInBounds_toArray, List.set_cons_zero, List.set_cons_succ]
      refine wpHd_take (i := 9) (v := undef) (by kernel_rfl) rfl (by kernel_rfl) (fun _ _ _ h => h) (Or.inr ⟨by rfl, rfl⟩) (by assumption) ?_
      try simp only [Act.put, List.getElem_toArray, List.getElem_cons_succ, List.getElem_cons_zero, List.setIfInBounds_toArray, List.set_cons_zero, List.set_cons_succ]
      refine wpHd_take (i := 10) (v := undef) (by kernel_rfl) rfl (by kernel_rfl) (fun _ _ _ h => h) (Or.inr ⟨by rfl, rfl⟩) (by assumption) ?_
      try simp only [Act.put, List.getElem_toArray, List.getElem_cons_succ, List.getElem_cons_zero, List.setIfInBounds_toArray, List.set_cons_zero, List.set_cons_succ]
      refine wpHd_take (i := 11) (v := undef) (by kernel_rfl) rfl (by kernel_rfl) (fun _ _ _ h => h) (Or.inr ⟨by rfl, rfl⟩) (by assumption) ?_
      try simp only [Act.put, List.getElem_toArray, List.getElem_cons_succ, List.getElem_cons_zero, List.setIfInBounds_toArray, List.set_cons_zero, List.set_cons_succ]
      refine wpHd_one (i := 12) rfl (by kernel_rfl) (fun K hK => ?_)
      rw [if_neg (by first | (simp [Region.wanted, yielded]; done) | (simp [Region.wanted, yielded]; intro h; cases h))]
      refine hK.out _ _ ?_ (fun hSS => ?_)
      · refine ⟨?_, ?_, ?_, ?_⟩ <;> assumption
      clear hK
      try simp only [Act.put, List.getElem_toArray, List.getElem_cons_succ, List.getElem_cons_zero, List.setIfInBounds_toArray, List.set_cons_zero, List.set_cons_succ]
      refine wpHd_one (i := 13) rfl (by kernel_rfl) (fun K hK => ?_)
      rw [if_neg (by first | (simp [Region.wanted, yielded]; done) | (simp [Region.wanted, yielded]; intro h; cases h))]
      refine hK.out _ _ ?_ (fun hSS => ?_)
      · refine ⟨?_, ?_, ?_, ?_⟩ <;> assumption
      clear hK
      try simp only [Act.put, List.getElem_toArray, List.getElem_cons_succ, List.getElem_cons_zero, List.setIfInBounds_toArray, List.set_cons_zero, List.set_cons_succ]
      refine wpHd_take (i := 14) (v := undef) (by kernel_rfl) rfl (by kernel_rfl) (fun _ _ _ h => h) (Or.inr ⟨by rfl, rfl⟩) (by assumption) ?_
      try simp only [Act.put, List.getElem_toArray, List.getElem_cons_succ, List.getElem_cons_zero, List.setIfInBounds_toArray, List.set_cons_zero, List.set_cons_succ]
      refine wpHd_take (i := 15) (v := ?_) (by kernel_rfl) rfl (by kernel_rfl) (fun _ _ _ h => h) (Or.inl ⟨by rfl, ?_⟩) (by assumption) ?_
      rotate_left
      · intro w hSw; (try dsimp only at hSw); go_simp; (try with_reducible rfl)
      try simp only [Act.put, List.getElem_toArray, List.getElem_cons_succ, List.getElem_cons_zero, List.setIfInBounds_toArray, List.set_cons_zero, List.set_cons_succ]
      refine wpHd_end (by kernel_rfl) ?_
      clear hSS
      go_upto_region 4 with fail
      have c1 : w3.cell? ⟨sb, 1, none⟩ = some (.slice (some ⟨g, o, none⟩) ps.length cc) := H3.out.box.cellAt rfl
      go_wp2_with fail
      clear c1
      go_loopw [46] (fun i wr => FrRel (osN l ps) x1 od.fr w3 i wr) (fun i _ => ps.length - (intOf i).toNat)
      case atStart => exact ⟨0, Nat.zero_le _, rfl, fun j hj => absurd hj (Nat.not_lt_zero _), Only.refl _ _⟩
      case round =>
        obtain ⟨k, hk, rfl, hall, ho⟩ := hrel
        rw [Hol.out] at hk
        have Hall := Lib.hid hall
        have HX6 := Lib.hid (ho.box HX3.out id)
        have HZ6 := Lib.hid (ho.box HZ3.out id)
        have H6 := Lib.hid (H3.out.keep ho)
        have HO6 := Lib.hid ho
        clear hall ho
        by_cases hlt : k < ps.length
        · obtain ⟨p2, hp2, hpl2, hos2, B2, cc2, eav2, g2, o2, eB2, hc2⟩ := H6.out.place hlt
          injection eav2 with e1 _ e2
          rw [← e1] at eB2
          injection eB2 with eB2
          injection eB2 with e3 e4
          subst e3 e4
          clear e1 e2 hp2
          obtain ⟨g4, o4, dA2, dc2, eA, hg4, hcells, hby2⟩ := H6.out.done.at_ p2 hpl2
          injection eA with eA
          injection eA with e5 e6
          subst e5 e6
          have Hos2 := Lib.hid hos2
          clear hos2 hby2
          generalize l.getD p2 default = oe at *
          obtain ⟨d0, d1, d2, d3, d4, d5, d6, d7, d8, d9⟩ := tenAt hcells
          clear hcells
          have c0 : wr.cell? ⟨sb, 0, none⟩ = some (.slice (some ⟨g', o', none⟩) l.length c) := H6.out.box.cellAt rfl
          have hki : (k : Int) < ps.length := by omega
          have hpi : (p2 : Int) < l.length := by omega
          have Hlt := Lib.hid hlt
          clear hlt
          go_upto_region 8 with (refine wpList_store_row rfl 33 _ _ rfl wr.heap.size (doneC oe (.slice dA2 oe.data.length dc2)) rfl rfl 33 _ (Box.fresh wr 33 zD) (by kernel_rfl) rfl (done_one oe dA2 oe.data.length dc2) ?_)
          have ho7 : Only Non wr ((wr.alloc (.cells zD 33)).setRow wr.heap.size (doneC oe (.slice dA2 oe.data.length dc2))) := ((Only.refl Non wr).alloc _).setRow' (.inr (Nat.le_refl _)) _
          have HY7 := Lib.hid ((Box.fresh wr 33 zD).setRow' (doneC oe (.slice dA2 oe.data.length dc2)))
          change Code.wp _ _ _ _ ((wr.alloc (.cells zD 33)).setRow wr.heap.size (doneC oe (.slice dA2 oe.data.length dc2)))
          generalize (wr.alloc (.cells zD 33)).setRow wr.heap.size (doneC oe (.slice dA2 oe.data.length dc2)) = W7 at *
          have HO7 := Lib.hid (HO6.out.trans ho7)
          have HX7 := Lib.hid (ho7.box HX6.out id)
          have HZ7 := Lib.hid (ho7.box HZ6.out id)
          clear ho7 d0 d1 d2 d3 d4 d5 d6 d7 d8 d9 c0
          generalize wr.heap.size = yb at *
          have HH2 := Lib.hid (has_any x1 k x2 hx (show k < 64 by have := Hlt.out; omega) W7)
          have a0 : W7.cell? ⟨xb, 0, none⟩ = some (.int .u64 x1) := HX7.out.cellAt rfl
          have a1 : W7.cell? ⟨xb, 1, none⟩ = some (.int .i64 x2) := HX7.out.cellAt rfl
          rcases hbq : x1.testBit k with _ | _
          · rw [hbq] at HH2
            have Hbq := Lib.hid hbq
            clear hbq
            have HM := fun w => must_any oe dA2 oe.data.length dc2 w
            rcases hmq : mustD oe with _ | _
            · rw [hmq] at HM
              have HM := Lib.hid HM
              have Hmq := Lib.hid hmq
              clear hmq
              go_wp2_with fail
              refine HH2.out.mono ?_
              rintro e w8 ⟨rfl, ho8⟩
              have HO8 := Lib.hid (HO7.out.trans ho8)
              have HY8 := Lib.hid (ho8.box HY7.out id)
              clear ho8 a0 a1
              obtain ⟨y0, y1, y2, y3, y4, y5, y6, y7, y8, y9⟩ := HY8.out.ten
              go_wp2_with fail
              refine (HM.out w8).mono ?_
              rintro e w9 ⟨rfl, ho9⟩
              have HO9 := Lib.hid (HO8.out.trans ho9)
              clear ho9
              go_wp2
              have hall' : ∀ j, j < k + 1 → x1.testBit j = false → mustD ((osN l ps).getD j default) = true → ¬ ((osN l ps).getD j default).to < od.fr := fun j hj hb hm => by
                rcases Nat.lt_or_ge j k with h | h
                · have := Hall.out j h hb hm; omega
                · obtain rfl : j = k := by omega
                  rw [Hos2.out, Hmq.out] at hm; cases hm
              exact ⟨⟨k + 1, by rw [Hol.out]; exact Hlt.out, by simp, hall', HO9.out⟩, by have := Hlt.out; simp [intOf]; omega⟩
            · rw [hmq] at HM
              have HM := Lib.hid HM
              have Hmq := Lib.hid hmq
              clear hmq
              go_wp2_with fail
              refine HH2.out.mono ?_
              rintro e w8 ⟨rfl, ho8⟩
              have HO8 := Lib.hid (HO7.out.trans ho8)
              have HY8 := Lib.hid (ho8.box HY7.out id)
              have HZ8 := Lib.hid (ho8.box HZ7.out id)
              clear ho8 a0 a1
              obtain ⟨y0, y1, y2, y3, y4, y5, y6, y7, y8, y9⟩ := HY8.out.ten
              go_wp2_with fail
              refine (HM.out w8).mono ?_
              rintro e w9 ⟨rfl, ho9⟩
              have HO9 := Lib.hid (HO8.out.trans ho9)
              have z8 : w9.cell? ⟨yb, 8, none⟩ = some (.int .i64 oe.to) := (ho9.box HY8.out id).cellAt rfl
              have z7 : w9.cell? ⟨zb, 7, none⟩ = some (.int .i64 od.fr) := (ho9.box HZ8.out id).cellAt rfl
              clear ho9 y0 y1 y2 y3 y4 y5 y6 y7 y8 y9
              by_cases htf : oe.to < od.fr
              · have hd : decide (freeD (osN l ps) size (x1, x2) i) = false := decide_eq_false fun h => h.2.2 k (by rw [Hol.out]; exact Hlt.out) Hbq.out (by rw [Hos2.out]; exact Hmq.out) (by rw [Hos2.out, HOD2.out]; exact htf)
                have Hd := Lib.hid hd
                clear hd
                go_wp2_with fail
                go_ret
                exact ⟨by rw [Hd.out]; rfl, HO3.out.transN HO9.out⟩
              · go_wp2
                have hall' : ∀ j, j < k + 1 → x1.testBit j = false → mustD ((osN l ps).getD j default) = true → ¬ ((osN l ps).getD j default).to < od.fr := fun j hj hb hm => by
                  rcases Nat.lt_or_ge j k with h | h
                  · have := Hall.out j h hb hm; omega
                  · obtain rfl : j = k := by omega
                    rw [Hos2.out]; omega
                exact ⟨⟨k + 1, by rw [Hol.out]; exact Hlt.out, by simp, hall', HO9.out⟩, by have := Hlt.out; simp [intOf]; omega⟩
          · rw [hbq] at HH2
            have Hbq := Lib.hid hbq
            clear hbq
            go_wp2_with fail
            refine HH2.out.mono ?_
            rintro e w8 ⟨rfl, ho8⟩
            have HO8 := Lib.hid (HO7.out.trans ho8)
            clear ho8 a0 a1
            go_wp2
            have hall' : ∀ j, j < k + 1 → x1.testBit j = false → mustD ((osN l ps).getD j default) = true → ¬ ((osN l ps).getD j default).to < od.fr := fun j hj hb hm => by
              rcases Nat.lt_or_ge j k with h | h
              · have := Hall.out j h hb hm; omega
              · obtain rfl : j = k := by omega
                rw [Hbq.out] at hb; cases hb
            exact ⟨⟨k + 1, by rw [Hol.out]; exact Hlt.out, by simp, hall', HO8.out⟩, by have := Hlt.out; simp [intOf]; omega⟩
        · obtain rfl : k = ps.length := by omega
          have hd : decide (freeD (osN l ps) size (x1, x2) i) = true := decide_eq_true ⟨Hbit.out, Hval.out, fun j hj hb hm => by rw [HOD2.out]; have := Hall.out j (by rwa [Hol.out] at hj) hb hm; omega⟩
          have Hd := Lib.hid hd
          clear hd hlt
          go_wp2_with fail
          go_ret
          exact ⟨by rw [Hd.out]; rfl, HO3.out.transN HO6.out⟩
  · rw [hbq] at HH
    have hd : decide (freeD (osN l ps) size (x1, x2) i) = false := decide_eq_false fun h => by rw [h.1] at hbq; cases hbq
    have Hd := Lib.hid hd
    clear hbq hd
    refine wp_region_tail (S := (fun w' : World => w'.cell? ⟨xb, 0, none⟩ = some (.int .u64 x1) ∧ w'.cell? ⟨xb, 1, none⟩ = some (.int .i64 x2) ∧ w'.cell? ⟨zb, 3, none⟩ = some (.bool od.write) ∧ w'.cell? ⟨zb, 5, none⟩ = some (.slice dA od.data.length dc))) 16 (by kernel_rfl) (by kernel_rfl) ?_ ?_
    · refine ⟨?_, ?_, ?_, ?_⟩ <;> assumption
    intro hSS
    refine wpHd_take (i := 0) (v := stV (x1, x2)) (by kernel_rfl) rfl (by kernel_rfl) (fun _ _ _ h => h) (Or.inl ⟨by rfl, ?_⟩) (by assumption) ?_
    · intro w hSw; (try dsimp only at hSw); go_simp; rfl
    try simp only [Act.put, List.getElem_toArray, List.getElem_cons_succ, List.getElem_cons_zero, List.setIfInBounds_toArray, List.set_cons_zero, List.set_cons_succ]
    refine wpHd_take (i := 1) (v := ?_) (by kernel_rfl) rfl (by kernel_rfl) (fun _ _ _ h => h) (Or.inl ⟨by rfl, ?_⟩) (by assumption) ?_
    rotate_left
    · intro w hSw; (try dsimp only at hSw); go_simp; (try with_reducible rfl)
    try simp only [Act.put, List.getElem_toArray, List.getElem_cons_succ, List.getElem_cons_zero, List.setIfInBounds_toArray, List.set_cons_zero, List.set_cons_succ]
    refine wpHd_one (i := 2) rfl (by kernel_rfl) (fun K hK => ?_)
    go_simp
    refine HH.out.mono ?_
    rintro e w3 ⟨rfl, ho3⟩
    have HX3 := Lib.hid (ho3.box HX2d.out id)
    have HZ3 := Lib.hid (ho3.box HZ2d.out id)
    have H3 := Lib.hid (H2d.out.keep ho3)
    have HO3 := Lib.hid (HO2d.out.transN ho3)
    have f0 : w3.cell? ⟨xb, 0, none⟩ = some (.int .u64 x1) := HX3.out.cellAt rfl
    have f1 : w3.cell? ⟨xb, 1, none⟩ = some (.int .i64 x2) := HX3.out.cellAt rfl
    have f2 : w3.cell? ⟨zb, 3, none⟩ = some (.bool od.write) := HZ3.out.cellAt rfl
    have f3 : w3.cell? ⟨zb, 5, none⟩ = some (.slice dA od.data.length dc) := HZ3.out.cellAt rfl
    clear ho3
    refine hK.out _ _ ?_ (fun hSS => ?_)
    · refine ⟨?_, ?_, ?_, ?_⟩ <;> assumption
    clear hK
    try simp only [Act.put, List.getElem_toArray, List.getElem_cons_succ, List.getElem_cons_zero, List.setIfInBounds_toArray, List.set_cons_zero, List.set_cons_succ]
    refine wpHd_take (i := 3) (v := ?_) (by kernel_rfl) rfl (by kernel_rfl) (fun _ _ _ h => h) (Or.inl ⟨by rfl, ?_⟩) (by assumption) ?_
    rotate_left
    · intro w hSw; (try dsimp only at hSw); go_simp; (try with_reducible rfl)
    try simp only [Act.put, List.getElem_toArray, List.getElem_cons_succ, List.getElem_cons_zero, List.setIfInBounds_toArray, List.set_cons_zero, List.set_cons_succ]
    refine wpHd_take (i := 4) (v := undef) (by kernel_rfl) rfl (by kernel_rfl) (fun _ _ _ h => h) (Or.inr ⟨by rfl, rfl⟩) (by assumption) ?_
    try simp only [Act.put, List.getElem_toArray, List.getElem_cons_succ, List.getElem_cons_zero, List.setIfInBounds_toArray, List.set_cons_zero, List.set_cons_succ]
    refine wpHd_take (i := 5) (v := undef) (by kernel_rfl) rfl (by kernel_rfl) (fun _ _ _ h => h) (Or.inr ⟨by rfl, rfl⟩) (by assumption) ?_
    try simp only [Act.put, List.getElem_toArray, List.getElem_cons_succ, List.getElem_cons_zero, List.setIfInBounds_toArray, List.set_cons_zero, List.set_cons_succ]
    refine wpHd_take (i := 6) (v := undef) (by kernel_rfl) rfl (by kernel_rfl) (fun _ _ _ h => h) (Or.inr ⟨by rfl, rfl⟩) (by assumption) ?_
    try simp only [Act.put, List.getElem_toArray, List.getElem_cons_succ, List.getElem_cons_zero, List.setIfInBounds_toArray, List.set_cons_zero, List.set_cons_succ]
    refine wpHd_take (i := 7) (v := undef) (by kernel_rfl) rfl (by kernel_rfl) (fun _ _ _ h => h) (Or.inr ⟨by rfl, rfl⟩) (by assumption) ?_
    try simp only [Act.put, List.getElem_toArray, List.getElem_cons_succ, List.getElem_cons_zero, List.setIfInBounds_toArray, List.set_cons_zero, List.set_cons_succ]
    refine wpHd_take (i := 8) (v := undef) (by kernel_rfl) rfl (by kernel_rfl) (fun _ _ _ h => h) (Or.inr ⟨by rfl, rfl⟩) (by assumption) ?_
    try simp only [Act.put, List.getElem_toArray, List.getElem_cons_succ, List.getElem_cons_zero, List.setIfInBounds_toArray, List.set_cons_zero, List.set_cons_succ]
    refine wpHd_take (i := 9) (v := undef) (by kernel_rfl) rfl (by kernel_rfl) (fun _ _ _ h => h) (Or.inr ⟨by rfl, rfl⟩) (by assumption) ?_
    try simp only [Act.put, List.getElem_toArray, List.getElem_cons_succ, List.getElem_cons_zero, List.setIfInBounds_toArray, List.set_cons_zero, List.set_cons_succ]
    refine wpHd_take (i := 10) (v := undef) (by kernel_rfl) rfl (by kernel_rfl) (fun _ _ _ h => h) (Or.inr ⟨by rfl, rfl⟩) (by assumption) ?_
    try simp only [Act.put, List.getElem_toArray, List.getElem_cons_succ, List.getElem_cons_zero, List.setIfInBounds_toArray, List.set_cons_zero, List.set_cons_succ]
    refine wpHd_take (i := 11) (v := undef) (by kernel_rfl) rfl (by kernel_rfl) (fun _ _ _ h => h) (Or.inr ⟨by rfl, rfl⟩) (by assumption) ?_
    try simp only [Act.put, List.getElem_toArray, List.getElem_cons_succ, List.getElem_cons_zero, List.setIfInBounds_toArray, List.set_cons_zero, List.set_cons_succ]
    refine wpHd_one (i := 12) rfl (by kernel_rfl) (fun K hK => ?_)
    rw [if_neg (by first | (simp [Region.wanted, yielded]; done) | (simp [Region.wanted, yielded]; intro h; cases h))]
    refine hK.out _ _ ?_ (fun hSS => ?_)
    · refine ⟨?_, ?_, ?_, ?_⟩ <;> assumption
    clear hK
    try simp only [Act.put, List.getElem_toArray, List.getElem_cons_succ, List.getElem_cons_zero, List.setIfInBounds_toArray, List.set_cons_zero, List.set_cons_succ]
    refine wpHd_one (i := 13) rfl (by kernel_rfl) (fun K hK => ?_)
    rw [if_neg (by first | (simp [Region.wanted, yielded]; done) | (simp [Region.wanted, yielded]; intro h; cases h))]
    refine hK.out _ _ ?_ (fun hSS => ?_)
    · refine ⟨?_, ?_, ?_, ?_⟩ <;> assumption
    clear hK
    try simp only [Act.put, List.getElem_toArray, List.getElem_cons_succ, List.getElem_cons_zero, List.setIfInBounds_toArray, List.set_cons_zero, List.set_cons_succ]
    refine wpHd_take (i := 14) (v := undef) (by kernel_rfl) rfl (by kernel_rfl) (fun _ _ _ h => h) (Or.inr ⟨by rfl, rfl⟩) (by assumption) ?_
    try simp only [Act.put, List.getElem_toArray, List.getElem_cons_succ, List.getElem_cons_zero, List.setIfInBounds_toArray, List.set_cons_zero, List.set_cons_succ]
    refine wpHd_take (i := 15) (v := undef) (by kernel_rfl) rfl (by kernel_rfl) (fun _ _ _ h => h) (Or.inr ⟨by rfl, rfl⟩) (by assumption) ?_
    try simp only [Act.put, List.getElem_toArray, List.getElem_cons_succ, List.getElem_cons_zero, List.setIfInBounds_toArray, List.set_cons_zero, List.set_cons_succ]
    refine wpHd_end (by kernel_rfl) ?_
    clear hSS
    go_wp2_with fail
    go_ret
    exact ⟨by rw [Hd.out]; rfl, HO3.out⟩
end
end Go.Proofs.Ythfafegfooibmaa
