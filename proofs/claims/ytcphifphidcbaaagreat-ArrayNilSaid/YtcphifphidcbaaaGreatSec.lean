/- A disk in memory: New, Len, there, Read. -/
import Derived.Test.YtcphifphidcbaaaGreatByt
import Derived.Test.YtcphifphidcbaaaGreatRws
import Derived.Deep.CutRange
import Derived.Laws.CopyOwn
namespace Go.Proofs.YtcphifphidcbaaaGreat
open Go.RowKit Go.ChangeShapes Go.WideShapes
set_option linter.unusedVariables false
set_option linter.unusedSimpArgs false
theorem bytes_len0 (l : List Int) : (bytes l).length = l.length := List.length_map ..
/-- the 64 sectors, as slices -/
def secC (V : Nat → Value) : Array Value := Array.ofFn (n := 64) fun i => V i.1
theorem secC_at (V : Nat → Value) {i : Nat} (hi : i < 64) : (secC V)[i]? = some (V i) := by
  simp only [secC, Array.getElem?_ofFn, hi, dite_true]
theorem secC_set (V : Nat → Value) {i : Nat} (v : Value) : (secC V).setIfInBounds i v = secC (fun j => if j = i then v else V j) := by
  refine Array.ext (by simp [secC]) fun j h1 h2 => ?_
  have hj : j < 64 := by simpa [secC] using h2
  rw [Array.getElem_setIfInBounds (by simpa [secC] using hj)]
  simp only [secC, Array.getElem_ofFn]
  by_cases e : i = j
  · subst e; simp
  · rw [if_neg e, if_neg (fun e' => e e'.symm)]
/-- the blocks of memory that are a disk's -/
def dskBlk (db lb : Nat) (V : Nat → Value) : Nat → Prop := fun k => k = db ∨ k = lb ∨ ∃ i, i < 64 ∧ ownB (V i) k
/-- a disk: what its sectors hold; how many writes are left; whether it is down -/
structure DskS where
  sec : Nat → List Int
  fuse : Int
  down : Bool
def DskS.write (d : DskS) (i : Nat) (l : List Int) : DskS × Int :=
  if d.down = true then (d, 8) else if d.fuse = 0 then ({ d with down := true }, 8) else ({ d with fuse := if d.fuse - 1 < -1 then -1 else d.fuse - 1, sec := fun j => if j = i then l else d.sec j }, 0)
structure DskB (w : World) (db lb : Nat) (V : Nat → Value) (d : DskS) : Prop where
  box : Box w db 156 #[.slice (some ⟨lb, 0, none⟩) 64 64, .int .i64 d.fuse, .bool d.down]
  row : Box w lb 23 (secC V)
  byt : ∀ i, i < 64 → Byt w (V i) (d.sec i)
  small : ∀ i, i < 64 → (d.sec i).length ≤ 64
  off : ∀ i, i < 64 → ∀ k, ownB (V i) k → k ≠ db ∧ k ≠ lb ∧ k < w.heap.size
  ne : db ≠ lb
section
variable {w w' : World} {db lb : Nat} {V : Nat → Value} {d : DskS} {S : Nat → Prop}
theorem DskB.only (h : DskB w db lb V d) (ho : Only S w w') (hS : ∀ k, dskBlk db lb V k → ¬ S k) : DskB w' db lb V d :=
  { box := ho.box h.box (hS _ (.inl rfl)), row := ho.box h.row (hS _ (.inr (.inl rfl))), byt := fun i hi => (h.byt i hi).only ho fun k hk => hS k (.inr (.inr ⟨i, hi, hk⟩)), small := h.small
    off := fun i hi k hk => by have := h.off i hi k hk; exact ⟨this.1, this.2.1, Nat.lt_of_lt_of_le this.2.2 ho.size⟩, ne := h.ne }
theorem DskB.keep (h : DskB w db lb V d) (ho : Only Non w w') : DskB w' db lb V d := h.only ho fun _ _ => id
theorem DskB.lt (h : DskB w db lb V d) {k : Nat} (hk : dskBlk db lb V k) : k < w.heap.size := by
  rcases hk with rfl | rfl | ⟨i, hi, hk⟩
  · exact h.box.lt
  · exact h.row.lt
  · exact (h.off i hi k hk).2.2
end
section
set_option maxHeartbeats 4000000
set_option maxRecDepth 100000
theorem secInfo : (Tryz.prog.info? 23).map (fun i => (i.zero, i.size, i.bytes)) = some (some (.slice none 0 0), 1, 24) := by kernel_rfl
theorem run_make_sec (w : World) : (Instr.makeSlice 154 (.int .i64 64) (.int .i64 64)).run Tryz.prog w = .ok (.slice (some ⟨w.heap.size, 0, none⟩) 64 64) (w.alloc (.cells (secC fun _ => .slice none 0 0) 23)) := by
  have h := run_make_row' (P := Tryz.prog) 154 23 _ 24 Tryz.underlying154 secInfo rfl .i64 .i64 64 (by decide) (by decide) w
  have e : madeCells #[Value.slice none 0 0] 64 = secC fun _ => .slice none 0 0 := by
    apply Array.toList_inj.1
    rw [toList_madeCells_one]
    rfl
  rw [e] at h
  exact h
theorem sec_new (w : World) : Calls Tryz.prog 51 #[.int .i64 64] w fun e w' => ∃ db lb, e = .returned (.pointer (some ⟨db, 0, none⟩)) ∧ DskB w' db lb (fun _ => .slice none 0 0) ⟨fun _ => [], -1, false⟩ ∧ w.heap.size ≤ lb ∧ w.heap.size ≤ db ∧ Only Non w w' := by
  have hmk := run_make_sec
  go_enter Tryz.func51, Tryz.ntmps51
  go_wp2_with fail
  go_ret
  have al1 := (Only.refl Non w).alloc (.cells (secC fun _ => .slice none 0 0) 23)
  have hb1 := Box.fresh w 23 (secC fun _ => .slice none 0 0)
  have al2 := (Only.refl Non (w.alloc (.cells (secC fun _ => .slice none 0 0) 23))).alloc (.cells #[.slice (some ⟨w.heap.size, 0, none⟩) 64 64, .int .i64 (-1), .bool false] 156)
  refine ⟨w.heap.size + 1, w.heap.size, rfl, ⟨?_, al2.box hb1 id, fun i hi => ⟨none, 0, rfl, Nat.le_refl _, Nat.zero_le _, Src.nil_ _ _⟩, fun i hi => Nat.zero_le _, fun i hi k hk => (ownB_none hk).elim, by omega⟩, Nat.le_refl _, Nat.le_succ _, al1.trans al2⟩
  have h := Box.fresh (w.alloc (.cells (secC fun _ => .slice none 0 0) 23)) 156 #[.slice (some ⟨w.heap.size, 0, none⟩) 64 64, .int .i64 (-1), .bool false]
  simpa using h
section
variable {w : World} {db lb : Nat} {V : Nat → Value} {d : DskS}
theorem sec_len (h : DskB w db lb V d) : Calls Tryz.prog 90 #[.pointer (some ⟨db, 0, none⟩)] w fun e w' => e = .returned (.int .i64 64) ∧ w = w' := by
  have x0 : w.cell? ⟨db, 0, none⟩ = some (.slice (some ⟨lb, 0, none⟩) 64 64) := h.box.cellAt rfl
  clear h
  go_enter Tryz.func90, Tryz.ntmps90
  go_wp2_with fail
  go_ret
  exact ⟨rfl, rfl⟩
theorem sec_there {at_ : Nat} (hi : at_ < 64) (h : DskB w db lb V d) : Calls Tryz.prog 165 #[.pointer (some ⟨db, 0, none⟩), .int .i64 at_] w fun e w' => e = .returned (.bool true) ∧ w = w' := by
  have x0 : w.cell? ⟨db, 0, none⟩ = some (.slice (some ⟨lb, 0, none⟩) 64 64) := h.box.cellAt rfl
  clear h
  have h1 : (0 : Int) ≤ at_ := by omega
  have h2 : (at_ : Int) < 64 := by omega
  go_enter Tryz.func165, Tryz.ntmps165
  go_wp2_with fail
  go_ret
  exact ⟨rfl, rfl⟩
theorem sec_read {at_ : Nat} (hi : at_ < 64) (h : DskB w db lb V d) :
    Calls Tryz.prog 160 #[.pointer (some ⟨db, 0, none⟩), .int .i64 at_] w fun e w' => ∃ v, e = .returned (.tuple #[v, .int .i64 0]) ∧ Row 5 w' v (bytes (d.sec at_)) ∧ Only Non w w' ∧ ∀ k, ownB v k → w.heap.size ≤ k := by
  have x0 : w.cell? ⟨db, 0, none⟩ = some (.slice (some ⟨lb, 0, none⟩) 64 64) := h.box.cellAt rfl
  have x1 : w.cell? ⟨lb, at_, none⟩ = some (V at_) := h.row.cellAt (secC_at V hi)
  have HT := Lib.hid (sec_there hi h)
  have HC := Lib.hid (clone_any (V at_) (d.sec at_) w (h.byt at_ hi))
  clear h
  generalize V at_ = v at *
  have h1 : (0 : Int) ≤ at_ := by omega
  have h2 : (at_ : Int) < 64 := by omega
  go_enter Tryz.func160, Tryz.ntmps160
  go_wp2_with (first | (go_at_call 165; refine HT.out.mono ?_; rintro e W1 ⟨rfl, rfl⟩) | (go_at_call 40; refine HC.out.mono ?_; rintro e W1 ⟨u, rfl, hr, ho, hk⟩))
  go_ret2
  exact ⟨u, rfl, hr, ho, hk⟩
theorem DskS.write_sec (d : DskS) (i : Nat) (l : List Int) (j : Nat) : (d.write i l).1.sec j = l ∧ j = i ∨ (d.write i l).1.sec j = d.sec j := by
  unfold DskS.write
  split
  · exact .inr rfl
  · split
    · exact .inr rfl
    · by_cases e : j = i
      · exact .inl ⟨if_pos e, e⟩
      · exact .inr (if_neg e)
/-- what a write leaves behind -/
def WrPost (w : World) (db lb : Nat) (V : Nat → Value) (d : DskS) (i : Nat) (l : List Int) (e : Ending) (w' : World) : Prop :=
  ∃ V', e = .returned (.int .i64 (d.write i l).2) ∧ DskB w' db lb V' (d.write i l).1 ∧ Only (fun k => k = db ∨ k = lb) w w' ∧ ∀ k, dskBlk db lb V' k → dskBlk db lb V k ∨ w.heap.size ≤ k
theorem sec_wr_down {v : Value} {l : List Int} {i : Nat} (hd : d.down = true) (h : DskB w db lb V d) : Calls Tryz.prog 138 #[.pointer (some ⟨db, 0, none⟩), .int .i64 i, v] w (WrPost w db lb V d i l) := by
  have x2 : w.cell? ⟨db, 2, none⟩ = some (.bool true) := h.box.cellAt (by rw [← hd]; rfl)
  have e : d.write i l = (d, 8) := by unfold DskS.write; rw [if_pos hd]
  have HE := Lib.hid e
  have HH := Lib.hid h
  clear h hd e
  go_enter Tryz.func138, Tryz.ntmps138
  go_wp2_with fail
  go_ret
  exact ⟨V, by rw [HE.out]; rfl, by rw [HE.out]; exact HH.out, Only.refl _ _, fun k hk => .inl hk⟩
theorem sec_wr_fuse {A : Option Addr} {c : Nat} {l : List Int} {i : Nat} (hi : i < 64) (hl : l.length ≤ 64) (hd : d.down = false) (hf : d.fuse = 0) (h : DskB w db lb V d) :
    Calls Tryz.prog 138 #[.pointer (some ⟨db, 0, none⟩), .int .i64 i, .slice A l.length c] w (WrPost w db lb V d i l) := by
  have x2 : w.cell? ⟨db, 2, none⟩ = some (.bool false) := h.box.cellAt (by rw [← hd]; rfl)
  have x1 : w.cell? ⟨db, 1, none⟩ = some (.int .i64 0) := h.box.cellAt (by rw [← hf]; rfl)
  have f2 : w.frozen? ⟨db, 2, none⟩ = false := h.box.free _
  have e : d.write i l = ({ d with down := true }, 8) := by unfold DskS.write; rw [if_neg (by rw [hd]; decide), if_pos hf]
  have HE := Lib.hid e
  have HH := Lib.hid h
  have HT := Lib.hid (sec_there hi h)
  have hl' : ¬ (64 : Int) < l.length := by omega
  clear h hd e hf hi
  go_enter Tryz.func138, Tryz.ntmps138
  go_wp2_with (go_at_call 165; refine HT.out.mono ?_; rintro e W1 ⟨rfl, rfl⟩)
  go_ret
  have j : Only (fun k => k = db ∨ k = lb) w (w.setCell ⟨db, 2, none⟩ (.bool true)) := (Only.refl _ w).setCell (p := ⟨db, 2, none⟩) (.inl (.inl rfl)) _
  refine ⟨V, by rw [HE.out]; rfl, ?_, j, fun k hk => .inl hk⟩
  rw [HE.out]
  have j1 : Only (Just db) w (w.setCell ⟨db, 2, none⟩ (.bool true)) := (Only.refl _ w).setCell (p := ⟨db, 2, none⟩) (.inl (show Just db db from rfl)) _
  exact { box := HH.out.box.store 2 (.bool true), row := j1.box HH.out.row fun e => HH.out.ne e.symm, byt := fun i hi => (HH.out.byt i hi).only j1 fun k hk e => (HH.out.off i hi k hk).1 e, small := HH.out.small
          off := fun i hi k hk => by have := HH.out.off i hi k hk; exact ⟨this.1, this.2.1, Nat.lt_of_lt_of_le this.2.2 j1.size⟩, ne := HH.out.ne }
theorem wpList_copy_fresh {w : World} {ops : Array Oper} {rest : List Oper} {o : Oper} {a : Act} {Q : Exit → Act → World → Prop} (hgd : o.guard = none) (d s : Operand)
    (ho : o.op = .call { callee := .builtin .copy, args := #[d, s], argTypes := #[23, 23] }) (l : List Int) (A : Option Addr) (c g : Nat) (hd : a.eval d = .slice (some ⟨g, 0, none⟩) l.length l.length)
    (hs : a.eval s = .slice A l.length c) (hg : w.heap[g]? = some (.cells (List.replicate l.length (Value.int .u8 0)).toArray 5 (0, 0))) (hb : Byt w (.slice A l.length c) l) (B : Nat) (w1 : World) (hB : Below B w1 w) (hBg : B ≤ g)
    (h : ∀ w', Hid (Box w' g 5 (bytes l).toArray) → Below B w1 w' → wpList Tryz.prog ops Q rest (a.put o.dst (goInt l.length)) w') : wpList Tryz.prog ops Q (o :: rest) a w := by
  have hn : (bytes l).length = Nat.min l.length l.length := by rw [show Nat.min l.length l.length = l.length from Nat.min_self _]; simp
  refine wpList_copy_splice hgd d s 23 23 ho 5 Tryz.underlying23 (by kernel_rfl) (some ⟨g, 0, none⟩) A l.length l.length l.length c hd hs g 0 (List.replicate l.length (Value.int .u8 0)) 5 hg (bytes l) hn (fun hp => ?_) (by simp) (bytes_one l) B w1 hB hBg (fun w' h1 h2 => ?_)
  · obtain ⟨A', c', e, h1, h2, h3⟩ := hb
    injection e with e1 _ _
    subst e1
    obtain ⟨g', o', hA, _⟩ := h3 0 _ (List.getElem?_eq_getElem hp)
    refine ⟨rfl, ⟨g', o', none⟩, hA, fun j v hj => ?_⟩
    obtain ⟨g2, o2, hA', hc⟩ := h3 j v hj
    rw [hA] at hA'
    injection hA' with hA'
    injection hA' with e1 e2 _
    subst e1 e2
    rw [Addr.add_lit]
    exact hc
  · have e : splice (List.replicate l.length (Value.int .u8 0)) 0 (bytes l) = bytes l := by
      unfold splice
      simp
    rw [e] at h1
    have h3 := h w' h1 h2
    simpa using h3
theorem sec_wr_ok {A : Option Addr} {c : Nat} {l : List Int} {i : Nat} (hi : i < 64) (hl : l.length ≤ 64) (hd : d.down = false) (hf : d.fuse ≠ 0) (hf0 : -1 ≤ d.fuse) (hf1 : d.fuse ≤ 9223372036854775807) (h : DskB w db lb V d) (hb : Byt w (.slice A l.length c) l) (hbo : ∀ k, ownB (.slice A l.length c) k → k ≠ db) :
    Calls Tryz.prog 138 #[.pointer (some ⟨db, 0, none⟩), .int .i64 i, .slice A l.length c] w (WrPost w db lb V d i l) := by
  have x2 : w.cell? ⟨db, 2, none⟩ = some (.bool false) := h.box.cellAt (by rw [← hd]; rfl)
  have x1 : w.cell? ⟨db, 1, none⟩ = some (.int .i64 d.fuse) := h.box.cellAt rfl
  have f1 : w.frozen? ⟨db, 1, none⟩ = false := h.box.free _
  have e : d.write i l = ({ d with fuse := if d.fuse - 1 < -1 then -1 else d.fuse - 1, sec := fun j => if j = i then l else d.sec j }, 0) := by unfold DskS.write; rw [if_neg (by rw [hd]; decide), if_neg hf]
  have HE := Lib.hid e
  have HH := Lib.hid h
  have HB := Lib.hid hb
  have HBO := Lib.hid hbo
  have HT := Lib.hid (sec_there hi h)
  have HI := Lib.hid hi
  have hl' : ¬ (64 : Int) < l.length := by omega
  have hfb : (d.fuse == 0) = false := by simpa using hf
  have hwr : IntKind.i64.wrap (d.fuse - 1) = d.fuse - 1 := by rw [IntKind.wrap_i64]; omega
  have HF0 := Lib.hid hf0
  generalize hfu : d.fuse = fu at *
  have HFU := Lib.hid hfu
  clear h hd e hf hi hb hbo hfu hf0 hf1
  go_enter Tryz.func138, Tryz.ntmps138
  go_upto_region 13 with (go_at_call 165; refine HT.out.mono ?_; rintro e W1 ⟨rfl, rfl⟩)
  have j1 : Only (Just db) w (w.setCell ⟨db, 1, none⟩ (.int .i64 (if fu - 1 < -1 then -1 else fu - 1))) := (Only.refl (Just db) w).setCell (p := ⟨db, 1, none⟩) (.inl (show Just db db from rfl)) _
  have HB1 := Lib.hid (show Box (w.setCell ⟨db, 1, none⟩ (.int .i64 (if fu - 1 < -1 then -1 else fu - 1))) db 156 #[.slice (some ⟨lb, 0, none⟩) 64 64, .int .i64 (if fu - 1 < -1 then -1 else fu - 1), .bool d.down] from HH.out.box.store 1 _)
  have HR1 := Lib.hid (j1.box HH.out.row fun e => HH.out.ne e.symm)
  have HY1 := Lib.hid (HB.out.only j1 fun k hk e => HBO.out k hk e)
  have HO1 := Lib.hid j1
  clear j1 x1 x2 f1
  generalize hnf : (if fu - 1 < -1 then -1 else fu - 1) = nf at *
  have HNF := Lib.hid hnf
  generalize w.setCell ⟨db, 1, none⟩ (.int .i64 nf) = W1 at *
  clear hnf hfb hwr
  have hmk : ∀ w, (Instr.makeSlice 23 (.int .i64 l.length) (.int .i64 l.length)).run Tryz.prog w = .ok (.slice (some ⟨w.heap.size, 0, none⟩) l.length l.length) (w.alloc (.cells (madeCells #[.int .u8 0] l.length) 5)) := fun w =>
    run_make_row' (P := Tryz.prog) 23 5 _ 1 Tryz.underlying23 byteInfo rfl .i64 .i64 l.length (by omega) (by omega) w
  have HL := Lib.hid hl
  clear hl
  go_upto_region 14 with fail
  clear hmk
  have al2 := (Only.refl Non W1).alloc (.cells (madeCells #[.int .u8 0] l.length) 5)
  have hbf := Box.fresh W1 5 (madeCells #[.int .u8 0] l.length)
  have HG := Lib.hid (show (W1.alloc (.cells (madeCells #[.int .u8 0] l.length) 5)).heap[W1.heap.size]? = some (.cells (List.replicate l.length (Value.int .u8 0)).toArray 5 (0, 0)) from by
    have : madeCells #[.int .u8 0] l.length = (List.replicate l.length (Value.int .u8 0)).toArray := by
      apply Array.toList_inj.1
      rw [toList_madeCells_one]
    rw [← this]
    exact hbf)
  have HSR := Lib.hid (HY1.out.only al2 fun _ _ => id)
  have HBL := Lib.hid (show Below W1.heap.size W1 (W1.alloc (.cells (madeCells #[.int .u8 0] l.length) 5)) from (Below.refl _ _).alloc (Nat.le_refl _) _)
  clear al2 hbf
  generalize W1.alloc (.cells (madeCells #[.int .u8 0] l.length) 5) = W2 at *
  have HSZ := Lib.hid (Nat.le_refl W1.heap.size)
  have HGZ := Lib.hid (show (W1.heap.size) < W2.heap.size from (Array.getElem?_eq_some_iff.1 HG.out).1)
  go_upto_region 15 with (refine wpList_copy_fresh rfl (.tmp 46) (.tmp 47) rfl l A c W1.heap.size rfl rfl HG.out HSR.out W1.heap.size W1 HBL.out HSZ.out ?_; intro W3 hg3 hb3)
  obtain ⟨j3, hbox3⟩ : Only Non W1 W3 ∧ Box W3 W1.heap.size 5 (bytes l).toArray := ⟨Only.of_below hb3, hg3.out⟩
  have x0 : W3.cell? ⟨db, 0, none⟩ = some (.slice (some ⟨lb, 0, none⟩) 64 64) := (j3.box HB1.out id).cellAt rfl
  have xi : W3.cell? ⟨lb, i, none⟩ = some (V i) := (j3.box HR1.out id).cellAt (secC_at V HI.out)
  have fi : W3.frozen? ⟨lb, i, none⟩ = false := (j3.box HR1.out id).free _
  have HJ3 := Lib.hid j3
  have HX3 := Lib.hid hbox3
  have hi1 : (i : Int) < 64 := by have := HI.out; omega
  clear j3 hbox3 hg3 hb3 HBL HG HSR
  go_wp2_with fail
  go_ret
  have j4 : Only (Just lb) W3 (W3.setCell ⟨lb, i, none⟩ (.slice (some ⟨W1.heap.size, 0, none⟩) l.length l.length)) := (Only.refl (Just lb) W3).setCell (p := ⟨lb, i, none⟩) (.inl (show Just lb lb from rfl)) _
  have hn := HH.out.ne
  have hg : db < W1.heap.size ∧ lb < W1.heap.size := ⟨HB1.out.lt, HR1.out.lt⟩
  have hw : w.heap.size ≤ W1.heap.size := HO1.out.size
  have hrow : Box (W3.setCell ⟨lb, i, none⟩ (.slice (some ⟨W1.heap.size, 0, none⟩) l.length l.length)) lb 23 (secC fun j => if j = i then .slice (some ⟨W1.heap.size, 0, none⟩) l.length l.length else V j) := by
    rw [← secC_set]
    exact (HJ3.out.box HR1.out id).store i _
  have hnew : Box (W3.setCell ⟨lb, i, none⟩ (.slice (some ⟨W1.heap.size, 0, none⟩) l.length l.length)) W1.heap.size 5 (bytes l).toArray := j4.box HX3.out (show ¬ W1.heap.size = lb by omega)
  refine ⟨fun j => if j = i then .slice (some ⟨W1.heap.size, 0, none⟩) l.length l.length else V j, by rw [HE.out]; rfl, ?_, ((HO1.out.mono (S' := fun k => k = db ∨ k = lb) fun k hk => .inl (.inl hk)).trans' HJ3.out fun k hk => hk.elim).trans' j4 fun k hk => .inl (.inr hk), fun k hk => ?_⟩
  · rw [HE.out]
    refine { box := j4.box (HJ3.out.box HB1.out id) hn, row := hrow, byt := fun j hj => ?_, small := fun j hj => ?_, off := fun j hj k hk => ?_, ne := hn }
    · by_cases e : j = i
      · rw [if_pos e]
        show Byt _ _ (if j = i then l else d.sec j)
        rw [if_pos e]
        exact Row.byt (.inr ⟨W1.heap.size, l.length, (bytes l).toArray, by rw [bytes_len0], hnew, by rw [bytes_len0]; omega, by simp, by have := HL.out; unfold maxLen; omega, by rw [bytes_len0]; exact List.take_of_length_le (Nat.le_of_eq (bytes_len0 l))⟩) (by have := HL.out; omega)
      · rw [if_neg e]
        show Byt _ _ (if j = i then l else d.sec j)
        rw [if_neg e]
        have ho := HH.out.off j hj
        exact (((HH.out.byt j hj).only HO1.out fun k hk e' => (ho k hk).1 e').only HJ3.out fun _ _ => id).only j4 fun k hk e' => (ho k hk).2.1 e'
    · show (if j = i then l else d.sec j).length ≤ 64
      split
      · exact HL.out
      · exact HH.out.small j hj
    · by_cases e : j = i
      · rw [if_pos e] at hk
        have hk := ownB_slice.1 hk
        subst hk
        exact ⟨by omega, by omega, hnew.lt⟩
      · rw [if_neg e] at hk
        have ho := HH.out.off j hj k hk
        exact ⟨ho.1, ho.2.1, by have h1 := HJ3.out.size; have h2 := j4.size; omega⟩
  · rcases hk with rfl | rfl | ⟨j, hj, hk⟩
    · exact .inl (.inl rfl)
    · exact .inl (.inr (.inl rfl))
    · by_cases e : j = i
      · simp only [if_pos e] at hk
        have hk := ownB_slice.1 hk
        exact .inr (by omega)
      · simp only [if_neg e] at hk
        exact .inl (.inr (.inr ⟨j, hj, hk⟩))
/-- a write, whatever the disk is at -/
theorem sec_write {A : Option Addr} {n c : Nat} {l : List Int} {i : Nat} (hi : i < 64) (hl : l.length ≤ 64) (hf0 : -1 ≤ d.fuse) (hf1 : d.fuse ≤ 9223372036854775807) (h : DskB w db lb V d) (hb : Byt w (.slice A n c) l) (hbo : ∀ k, ownB (.slice A n c) k → k ≠ db) :
    Calls Tryz.prog 138 #[.pointer (some ⟨db, 0, none⟩), .int .i64 i, .slice A n c] w (WrPost w db lb V d i l) := by
  obtain rfl := hb.len.1
  cases hd : d.down with
  | true => exact sec_wr_down hd h
  | false =>
    by_cases hf : d.fuse = 0
    · exact sec_wr_fuse hi hl hd hf h
    · exact sec_wr_ok hi hl hd hf hf0 hf1 h hb hbo
end
end
end Go.Proofs.YtcphifphidcbaaaGreat
