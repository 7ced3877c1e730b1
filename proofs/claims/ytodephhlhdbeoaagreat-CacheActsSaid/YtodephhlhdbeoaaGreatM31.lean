/- Several texts, one behind the other: Rcl Rcm Rcn Rco Rcp Rcq Rcr Rcs Rct Cpa Rcu Rcv. -/
import Derived.Test.YtodephhlhdbeoaaGreatM29
import Derived.Test.YtodephhlhdbeoaaGreatM30
import Derived.Test.YtodephhlhdbeoaaGreatM5
import Derived.Test.YtodephhlhdbeoaaGreatM7
import Derived.Test.YtodephhlhdbeoaaGreatM25
import Derived.Test.YtodephhlhdbeoaaGreatM17
namespace Go.Proofs.YtodephhlhdbeoaaGreat
open Go.RowKit Go.ChangeShapes Go.WideShapes
set_option linter.unusedVariables false
set_option linter.unusedSimpArgs false
def RpaRel (S : Nat → List Int) (n : Nat) (w : World) (v i : Value) (wr : World) : Prop :=
  ∃ k : Nat, k ≤ n ∧ i = .int .i64 k ∧ OwnInts 3 wr w.heap.size v (prtTo S k) ∧ Only Non w wr
theorem PrtI1.len {l : List HintA} {O : Nat → Nat → Int} {t : Nat} {S : Nat → List Int} (h : PrtI1 l O t S) {k : Nat} (hk : k ≤ l.length) : (prtTo S k).length ≤ 64 := by
  have h1 : (prtTo S k).length ≤ ((List.range 64).map Int.ofNat).length := nodup_sub2 (h.nodupA k hk) fun x hx => by
    obtain ⟨r, _, h2⟩ := (mem_prtTo S x k).1 hx
    have := (h.at_ h2).2.2
    exact List.mem_map.2 ⟨x.toNat, List.mem_range.2 (by omega), by simp; omega⟩
  simpa using h1
def NpRel (j0 : Array Value → Array Value) (n : Nat) (w : World) (pb : Nat) (i : Value) (wr : World) : Prop :=
  ∃ (k : Nat) (v : Value), k ≤ n ∧ i = .int .i64 k ∧ Box wr pb 248 (j0 #[v]) ∧ Row 43 wr v (List.replicate k (.slice none 0 0)) ∧ (∀ g, ownB v g → w.heap.size ≤ g) ∧ Only Non w wr
section
set_option maxHeartbeats 4000000
set_option maxRecDepth 100000
variable {j : RpJ} {l : List HintA} {O : Nat → Nat → Int} {S : Nat → List Int} {w : World} {blocks : Int}
theorem rpt_all (h : Rpt j l O S w) (hI : PrtI1 l O j.t S) (hP : hintsP blocks l) :
    Calls Tryz.prog 98 #[.pointer (some ⟨j.pb, 0, none⟩)] w fun e w' => ∃ v, e = .returned v ∧ OwnInts 3 w' w.heap.size v (prtTo S l.length) ∧ Only Non w w' := by
  obtain ⟨qv, hA⟩ := h
  have hn8 := hP.2.2
  have HA := Lib.hid hA
  have HLN := Lib.hid (fun k (hk : k ≤ l.length) => hI.len hk)
  obtain ⟨VA, vc, elv, _, _⟩ := hA.row.shape
  rw [qvL_len] at elv
  have HEL := Lib.hid elv
  clear hA hI hP elv
  go_enter Tryz.func98, Tryz.ntmps98
  go_upto_region 3 with fail
  go_loopw [3, 4] (fun v i wr => RpaRel S l.length w v i wr) (fun _ i _ => l.length - (intOf i).toNat)
  case atStart => exact ⟨0, Nat.zero_le _, rfl, OwnInts.nil _ _ _, Only.refl _ _⟩
  case round =>
    obtain ⟨k, hk, rfl, hown, ho⟩ := hrel
    have HL := Lib.hid hown
    have HO := Lib.hid ho
    have x3 : wr.cell? ⟨j.pb, 3, none⟩ = some (.slice VA l.length vc) := (HA.out.keep ho).c3.trans (by rw [HEL.out])
    by_cases hlt : k < l.length
    · have hlti : (k : Int) < l.length := by omega
      have HLT := Lib.hid hlt
      obtain ⟨g, c, e, hq, _⟩ := (HA.out.keep ho).cq hlt
      rw [HEL.out] at e
      injection e with e e2
      subst e
      obtain ⟨A, c2, eq, h1, h2⟩ := (HA.out.q k hlt).shape
      have HQ := Lib.hid ((HA.out.keep ho).q k hlt)
      have HLE := Lib.hid (show (prtTo S k).length + (S k).length ≤ 1000000 by
        have h1 := HLN.out (k + 1) (by omega)
        rw [prtTo_succ, List.length_append] at h1
        omega)
      clear hown ho hlt hk eq h1 h2
      go_wp2_with (at_builtin; refine wpList_ownapp _ rfl (.tmp 14) (.tmp 21) 43 3 rfl intInfo Tryz.underlying43 w.heap.size u3 (prtTo S k) rfl HL.out j.B (qv k) (S k) rfl HQ.out HLE.out HO.out.size ?_; intro v2 W2 h3 h4; have HV2 := Lib.hid h3; have HO2 := Lib.hid (HO.out.trans' h4 fun q hq => .inr (HL.out.lt q hq).1); clear h3 h4)
      go_roundw
      case rel => exact ⟨k + 1, HLT.out, by push_cast; rfl, by rw [prtTo_succ]; exact HV2.out, HO2.out⟩
      case measure => simp [intOf]; have := HLT.out; omega
    · obtain rfl : k = l.length := by omega
      clear hlt hk hown ho
      go_wp2
      go_ret
      exact ⟨_, rfl, HL.out, HO.out⟩
end
def rpnC (A : Option Addr) (n c ob : Nat) (t1 : Int) (v : Value) : Array Value := #[.slice A n c, .slice (some ⟨ob, 0, none⟩) (n * 4) (n * 4), .int .i64 t1, v]
def RpnRel (A : Option Addr) (n c ob pb : Nat) (t1 : Int) (w W : World) (i : Value) (wr : World) : Prop :=
  ∃ (k : Nat) (v : Value), k ≤ n ∧ i = .int .i64 k ∧ Box wr pb 248 (rpnC A n c ob t1 v) ∧ Row 43 wr v (List.replicate k (.slice none 0 0)) ∧ (∀ g, ownB v g → W.heap.size ≤ g) ∧ Only (Just pb) W wr
def RpNewPost (A : Option Addr) (c : Nat) (l : List HintA) (q : Nat → Int) (t : Nat) (w : World) (e : Ending) (w' : World) : Prop :=
  ∃ j : RpJ, e = .returned (.pointer (some ⟨j.pb, 0, none⟩)) ∧ Rpt j l (alcO l q) (fun _ => []) w' ∧ j.A = A ∧ j.t = t ∧ j.B = w'.heap.size ∧ w.heap.size ≤ j.pb ∧ w.heap.size ≤ j.ob ∧ (∀ k, ownB j.lv k → w.heap.size ≤ k) ∧ Only Non w w'
section
set_option maxHeartbeats 4000000
set_option maxRecDepth 100000
theorem rpt_new {A : Option Addr} {n c : Nat} {l : List HintA} {q : Nat → Int} {blocks : Int} {t : Nat} (w : World) (hin : HintsAt w A n c l) (hP : hintsP blocks l) (hq : ∀ t, t < 3 → 0 ≤ q t ∧ q t ≤ 16) (ht : t < 3) :
    Calls Tryz.prog 89 #[.slice A n c, .agg (capC q), .int .i64 ((t + 1 : Nat) : Int)] w (RpNewPost A c l q t w) := by
  obtain rfl := hin.len
  have hn8 := hP.2.2
  have HP := Lib.hid hP
  have HQ := Lib.hid hq
  have HIN := Lib.hid hin
  have HT := Lib.hid ht
  obtain ⟨t1, ht1⟩ : ∃ t1 : Int, t1 = ((t + 1 : Nat) : Int) := ⟨_, rfl⟩
  rw [← ht1]
  have HT1 := Lib.hid ht1
  have HO0 := Lib.hid ((Only.refl Non w).alloc (.cells (capC q) 22))
  have HC0 := Lib.hid (Box.fresh w 22 (capC q))
  clear hP hq hin ht ht1
  go_enter Tryz.func89, Tryz.ntmps89
  go_upto_region 1 with fail
  change Code.wp _ _ _ _ (w.alloc (.cells (capC q) 22))
  have HPA := Lib.hid (rparts_any (w.alloc (.cells (capC q) 22)) (HIN.out.only HO0.out fun _ _ => id) HP.out HQ.out)
  generalize w.alloc (.cells (capC q) 22) = W0 at *
  generalize w.heap.size = cb at *
  go_upto_region 3 with (first | (refine wpList_load_row rfl 22 _ rfl cb rfl 22 (capC q) (0, 0) _ HC0.out Tryz.underlying22 rfl (by kernel_rfl) ?_) | (go_at_call 161; refine HPA.out.mono ?_; rintro e W1 ⟨ob, rfl, hb, hob, ho⟩; have HB1 := Lib.hid hb; have HOB := Lib.hid hob; have HO1 := Lib.hid ho; clear hb hob ho))
  change Code.wp _ _ _ _ (W1.alloc (.cells (rpnC A l.length c ob t1 (.slice none 0 0)) 248))
  have ho2 : Only Non W1 (W1.alloc (.cells (rpnC A l.length c ob t1 (.slice none 0 0)) 248)) := (Only.refl Non W1).alloc _
  have HB := Lib.hid (Box.fresh W1 248 (rpnC A l.length c ob t1 (.slice none 0 0)))
  have HPB := Lib.hid (ho2.box HB1.out id)
  have HO := Lib.hid ((HO0.out.trans HO1.out).trans ho2)
  have HH := Lib.hid (HIN.out.only HO.out fun _ _ => id)
  have HZ := Lib.hid (show w.heap.size ≤ W1.heap.size ∧ w.heap.size ≤ ob ∧ ob < W1.heap.size from ⟨(HO0.out.trans HO1.out).size, Nat.le_trans HO0.out.size HOB.out, HB1.out.lt⟩)
  clear HB1 HO0 HO1 HOB HC0 HPA ho2
  generalize W1.alloc (.cells (rpnC A l.length c ob t1 (.slice none 0 0)) 248) = W2 at *
  generalize W1.heap.size = pb at *
  have HZ2 := Lib.hid (show w.heap.size ≤ W2.heap.size from HO.out.size)
  go_loopw [8] (fun iv wr => RpnRel A l.length c ob pb t1 w W2 iv wr) (fun iv _ => l.length - (intOf iv).toNat)
  case atStart => exact ⟨0, _, Nat.zero_le _, rfl, HB.out, Row.nil_ _ _, fun g hg => (ownB_none hg).elim, Only.refl _ _⟩
  case round =>
    clear HB
    obtain ⟨k, v, hk, rfl, hb, hr, hf, ho⟩ := hrel
    have HB := Lib.hid hb
    have HO9 := Lib.hid ho
    have HR := Lib.hid hr
    have HF := Lib.hid hf
    have x3 : wr.cell? ⟨pb, 3, none⟩ = some v := hb.cellAt rfl
    have f3 : wr.frozen? ⟨pb, 3, none⟩ = false := hb.free 3
    clear hb hr hf ho
    by_cases hlt : k < l.length
    · have hlti : (k : Int) < l.length := by omega
      have HLT := Lib.hid hlt
      have hkk : k < 8 := by omega
      clear hlt hk
      go_wp2_with (at_builtin; refine wpList_append_row _ rfl (.tmp 26) (.tmp 27) 246 43 rfl slInfo rfl Tryz.underlying246 v (List.replicate k (.slice none 0 0)) rfl (HR.out.only ((Only.refl Non wr).alloc _) fun _ _ => id) (some ⟨wr.heap.size, 0, none⟩) 1 1 [.slice none 0 0] rfl rfl (one_src wr _ _) (by simp [Value.oneCell']) (by simp [maxLen]; omega) (by simp; omega) ?_; intro v2 w2 hr2 ho2 hn2 _; obtain ⟨A2, c2, e2, _, _⟩ := hr2.shape; rw [show (List.replicate k (Value.slice none 0 0) ++ [Value.slice none 0 0]).length = k + 1 by simp] at e2; subst e2; have HB2 := Lib.hid (ho2.box (((Only.refl Non wr).alloc (.cells #[.slice none 0 0] 43)).box HB.out id) (fun hk => by obtain ⟨cs, h9⟩ := HR.out.box hk; exact (h9.off HB.out (by decide)) rfl)); have HR2 := Lib.hid hr2; have HO2 := Lib.hid ((HO9.out.alloc (.cells #[.slice none 0 0] 43)).trans' ho2 fun g hg => .inr (HF.out g hg)); have HF2 := Lib.hid (show ∀ g, ownB (.slice A2 (k + 1) c2) g → W2.heap.size ≤ g from fun g hg => (hn2 g hg).elim (HF.out g) fun h => by have := HO9.out.size; rw [World.size_alloc] at h; omega); have z3 := HB2.out.cellAt (i := 3) rfl; have zf := HB2.out.free 3; clear hr2 ho2 hn2)
      go_roundw
      case rel =>
        have hos : Only (Just pb) w2 (w2.setCell ⟨pb, 3, none⟩ (.slice A2 (k + 1) c2)) := (Only.refl (Just pb) w2).setCell (p := ⟨pb, 3, none⟩) (.inl (show Just pb pb from rfl)) _
        refine ⟨k + 1, .slice A2 (k + 1) c2, HLT.out, by push_cast; rfl, HB2.out.store 3 (.slice A2 (k + 1) c2), ?_, HF2.out, HO2.out.setCell (p := ⟨pb, 3, none⟩) (.inl (show Just pb pb from rfl)) _⟩
        have h1 := HR2.out.only hos fun g hg e => by
          obtain ⟨cs, h9⟩ := HR2.out.box hg
          exact (h9.off HB2.out (by decide)) e
        rw [List.replicate_succ']
        exact h1
      case measure => simp [intOf]; have := HLT.out; omega
    · obtain rfl : k = l.length := by omega
      clear hlt hk
      go_wp2
      go_ret
      have h1 := HZ.out
      have h2 := HZ2.out
      have h4 := HO9.out.size
      have hbx := HB.out
      refine ⟨⟨pb, v, ob, A, c, t, wr.heap.size⟩, rfl, ⟨fun _ => .slice none 0 0, ⟨?_, ?_, fun _ _ => OwnInts.nil _ _ _, HH.out.off HO9.out fun h0 k o e e2 => (by have h9 : k = pb := e2; have h8 := HIN.out.blk h0 e; omega), HO9.out.box HPB.out (fun e2 => by have h9 : ob = pb := e2; omega), HT.out, HB.out.lt, fun g hg => HR.out.lt hg, by have := HB.out.lt; dsimp only; omega, fun h0 k o e => ⟨?_, ?_⟩, Nat.le_refl _⟩⟩, rfl, rfl, rfl, h1.1, h1.2.1, fun g hg => Nat.le_trans h2 (HF.out g hg), HO.out.trans' HO9.out fun k hk => .inr (by have h9 : k = pb := hk; omega)⟩
      · show Box wr pb _ (rpnC A l.length c ob ((t + 1 : Nat) : Int) v)
        rw [← HT1.out]; exact hbx
      · have h6 := HR.out
        rw [show List.replicate l.length (Value.slice none 0 0) = qvL l.length (fun _ => .slice none 0 0) by simp [qvL, List.map_const']] at h6
        exact h6
      · exact Nat.lt_of_lt_of_le (HIN.out.blk h0 e) (Nat.le_trans h2 h4)
      · intro hk
        have h7 := HF.out k hk
        have h8 := HIN.out.blk h0 e
        omega
end
theorem run_append_none2 {P : Program} (w : World) (t ty e : TypeId) {z : Value} {size bytes c : Nat} (hinfo : (P.info? e).map (fun i => (i.zero, i.size, i.bytes)) = some (some z, size, bytes)) (ht : P.underlying t = some (.slice e)) :
    (Builtin.append_ #[t, t] ty #[.slice none 0 0, .slice none 0 c]).run P w = .ok (.slice none 0 0) w := by
  obtain ⟨i, hi, hz, hs, hby⟩ := info_parts hinfo
  simp [Builtin.append_, run_underlying ht, sizeOf, typeInfo, hi, Builtin.lenOf, Builtin.firstCells, loadCells, loadCellsFrom]
theorem wpList_appnone {P : Program} (w : World) {ops : Array Oper} {rest : List Oper} {o : Oper} {a : Act} {Q : Exit → Act → World → Prop} (hgd : o.guard = none) (s x : Operand) (t e : TypeId)
    (ho : o.op = .call { callee := .builtin .append, args := #[s, x], argTypes := #[t, t] }) {z : Value} {size bytes c : Nat}
    (hinfo : (P.info? e).map (fun i => (i.zero, i.size, i.bytes)) = some (some z, size, bytes)) (ht : P.underlying t = some (.slice e))
    (hs : a.eval s = .slice none 0 0) (hx : a.eval x = .slice none 0 c) (h : wpList P ops Q rest (a.put o.dst (.slice none 0 0)) w) : wpList P ops Q (o :: rest) a w := by
  have hr := run_append_none2 (P := P) (c := c) w t o.type e hinfo ht
  refine wpList_plain hgd fun K hK => ?_
  unfold Oper.wp execOp
  simp only [ho, resolve, invoke, builtin, Sem.run_bind, Sem.run_pure, Result.andThen_ok, List.map_toArray, List.map_cons, List.map_nil, hs, hx, hr]
  exact hK _ _ h
def z0C : CfgA := ⟨fun _ => 0, []⟩
theorem cfgCells_one (c : CfgA) (A : Option Addr) (n m : Nat) : (cfgCells c (.slice A n m)).all (·.oneCell') = true := by simp [cfgCells, Value.oneCell']
def OwnPost (c : CfgA) (w : World) (e : Ending) (w' : World) : Prop :=
  ∃ A m, e = .returned (.agg (cfgCells c (.slice A c.h.length m))) ∧ HintsAt w' A c.h.length m c.h ∧ (∀ k, ownB (.slice A c.h.length m) k → w.heap.size ≤ k) ∧ Only Non w w'
section
set_option maxHeartbeats 4000000
set_option maxRecDepth 100000
theorem rown_any {A : Option Addr} {n cp : Nat} {c : CfgA} (w : World) (hin : HintsAt w A n cp c.h) (hl : c.h.length ≤ 100) :
    Calls Tryz.prog 88 #[.agg (cfgCells c (.slice A n cp))] w (OwnPost c w) := by
  obtain rfl := hin.len
  have HIN := Lib.hid hin
  have HL := Lib.hid hl
  have HO0 := Lib.hid ((Only.refl Non w).alloc (.cells (cfgCells c (.slice A c.h.length cp)) 25))
  have HB0 := Lib.hid (Box.fresh w 25 (cfgCells c (.slice A c.h.length cp)))
  clear hin hl
  go_enter Tryz.func88, Tryz.ntmps88
  go_upto_region 1 with fail
  change Code.wp _ _ _ _ ((w.alloc (.cells (cfgCells c (.slice A c.h.length cp)) 25)).alloc (.cells (cfgCells z0C (.slice none 0 0)) 25))
  have hsz : (w.alloc (.cells (cfgCells c (.slice A c.h.length cp)) 25)).heap.size = w.heap.size + 1 := World.size_alloc ..
  generalize w.alloc (.cells (cfgCells c (.slice A c.h.length cp)) 25) = W0 at *
  obtain ⟨cb, hcb⟩ : ∃ cb, cb = w.heap.size := ⟨_, rfl⟩
  have HCB := Lib.hid (show w.heap.size ≤ cb from Nat.le_of_eq hcb.symm)
  rw [← hcb] at HB0 hsz ⊢
  clear hcb
  have ho1 : Only Non W0 (W0.alloc (.cells (cfgCells z0C (.slice none 0 0)) 25)) := (Only.refl Non W0).alloc _
  have HR1 := Lib.hid (Box.fresh W0 25 (cfgCells z0C (.slice none 0 0)))
  have HB1 := Lib.hid (ho1.box HB0.out id)
  have HO1 := Lib.hid (HO0.out.trans ho1)
  have HH1 := Lib.hid (HIN.out.only HO1.out fun _ _ => id)
  clear ho1 HB0 HO0
  generalize W0.alloc (.cells (cfgCells z0C (.slice none 0 0)) 25) = W1 at *
  rw [hsz] at HR1
  clear hsz
  have HNE := Lib.hid (show cb + 1 ≠ cb ∧ w.heap.size ≤ cb + 1 from ⟨by omega, by have := HCB.out; omega⟩)
  generalize cb + 1 = rb at *
  have y16 : W1.cell? ⟨cb, 16, none⟩ = some (.slice A c.h.length cp) := HB1.out.cellAt rfl
  have f16 : W1.frozen? ⟨cb, 16, none⟩ = false := HB1.out.free 16
  cases A with
  | none =>
    have h0 : c.h.length = 0 := by
      rcases Nat.eq_zero_or_pos c.h.length with h | h
      · exact h
      · obtain ⟨g, o, e, _⟩ := HH1.out.at_ 0 h
        cases e
    have H0 := Lib.hid h0
    rw [h0] at y16
    clear h0
    go_upto_region 4 with (at_builtin; refine wpList_appnone _ rfl (.tmp 4) (.tmp 6) 23 141 rfl hintInfo Tryz.underlying23 rfl rfl ?_)
    have ho4 : Only (Just cb) W1 (W1.setCell ⟨cb, 16, none⟩ (.slice none 0 0)) := (Only.refl (Just cb) W1).setCell (p := ⟨cb, 16, none⟩) (.inl (show Just cb cb from rfl)) _
    have HB4 := Lib.hid (show Box _ cb 25 (cfgCells c (.slice none 0 0)) from HB1.out.store 16 (.slice none 0 0))
    have HR4 := Lib.hid (ho4.box HR1.out HNE.out.1)
    have HH4 := Lib.hid (show HintsAt _ none c.h.length 0 c.h from ((show Hid (HintsAt W1 none c.h.length 0 c.h) from Lib.hid ⟨rfl, by rw [H0.out]; exact Nat.le_refl _, Nat.zero_le _, fun i hi => by have := H0.out; omega⟩).out.off ho4 fun h0 k o e e2 => (by have := H0.out; omega)))
    have HO4 := Lib.hid (HO1.out.setCell (p := ⟨cb, 16, none⟩) (.inr HCB.out) (.slice none 0 0))
    change Code.wp _ _ _ _ (W1.setCell ⟨cb, 16, none⟩ (.slice none 0 0))
    clear ho4
    generalize W1.setCell ⟨cb, 16, none⟩ (.slice none 0 0) = W4 at *
    go_wp2_with (first | (refine wpList_load_row rfl 25 _ rfl cb rfl 25 (cfgCells c (.slice none 0 0)) (0, 0) _ HB4.out Tryz.underlying25 rfl (by kernel_rfl) ?_) | (refine wpList_store_row rfl 25 _ _ rfl rb (cfgCells c (.slice none 0 0)) rfl rfl 25 _ HR4.out (by kernel_rfl) rfl (cfgCells_one _ _ _ _) ?_))
    (try simp only [Exit.inBlock, Exit.then])
    refine bodyPost_ret (results_cell_row rfl _ _ rb _ (cfgCells c (.slice none 0 0)) (0, 0) _ rfl (HR4.out.setRow' _) Tryz.underlying25 rfl (by kernel_rfl)) rfl ?_
    have hos : Only (Just rb) W4 (W4.setRow rb (cfgCells c (.slice none 0 0))) := (Only.refl (Just rb) W4).setRow' (.inl rfl) _
    exact ⟨none, 0, by rw [H0.out], HH4.out.off hos (fun h0 => by have := H0.out; omega), fun k hk => (ownB_none hk).elim, HO4.out.setRow' (.inr HNE.out.2) _⟩
  | some ad =>
    obtain ⟨i0, hi, hz, hsz, hby⟩ := info_parts hintInfo
    have HOW := Lib.hid (show W1.ownsRow W1.heap.size 141 4 (.slice none 0 0) 0 [] from ⟨rfl, .inl ⟨rfl, rfl⟩⟩)
    have HCE := Lib.hid (HH1.out.cells ad rfl)
    have HON := Lib.hid (show ∀ u ∈ c.h.flatMap hC, u.oneCell' = true from fun u hu => by
      obtain ⟨p, hp, hu⟩ := List.mem_flatMap.1 hu
      simp [hC] at hu
      rcases hu with rfl | rfl | rfl | rfl <;> rfl)
    have HI := Lib.hid hi
    have HZ := Lib.hid hz
    have HS := Lib.hid hsz
    have HBY := Lib.hid hby
    clear hi hz hsz hby
    go_upto_region 3 with (at_builtin; refine wpList_append_own_at W1 rfl (.tmp 4) (.tmp 6) 23 rfl W1.heap.size 141 i0 _ 4 32 Tryz.underlying23 HI.out HZ.out HS.out HBY.out rfl (by decide) _ 0 [] rfl HOW.out ad c.h.length cp (c.h.flatMap hC) rfl (hflat_len c.h) HCE.out HON.out (by have := HL.out; unfold maxLen; omega) (by have := HL.out; omega) (Nat.le_refl _) ?_; intro v' w1 h2 h3 h4 h5; rw [Nat.zero_add, List.nil_append] at h2; obtain ⟨A3, m3, rfl, hh⟩ := owns_hints h2; have HH3 := Lib.hid hh; have HF3 := Lib.hid (fun k hk => (World.ownsRow.lt h2 k hk).1); have HO3 := Lib.hid (show Only Non W1 w1 from (Only.refl Non W1).grown h3 fun k hk => by cases hk); clear h2 h3 h4 h5 hh)
    have HB3 := Lib.hid (HO3.out.box HB1.out id)
    have HR3 := Lib.hid (HO3.out.box HR1.out id)
    have HO3b := Lib.hid (HO1.out.trans HO3.out)
    have HLT := Lib.hid (show cb < W1.heap.size ∧ rb < W1.heap.size ∧ w.heap.size ≤ W1.heap.size from ⟨HB1.out.lt, HR1.out.lt, HO1.out.size⟩)
    have g16 : w1.cell? ⟨cb, 16, none⟩ = some (.slice (some ad) c.h.length cp) := HB3.out.cellAt rfl
    have gf : w1.frozen? ⟨cb, 16, none⟩ = false := HB3.out.free 16
    clear HB1 HR1 y16 f16 HOW HCE
    go_upto_region 4 with fail
    have ho4 : Only (Just cb) w1 (w1.setCell ⟨cb, 16, none⟩ (.slice A3 c.h.length m3)) := (Only.refl (Just cb) w1).setCell (p := ⟨cb, 16, none⟩) (.inl (show Just cb cb from rfl)) _
    have HB4 := Lib.hid (show Box _ cb 25 (cfgCells c (.slice A3 c.h.length m3)) from HB3.out.store 16 (.slice A3 c.h.length m3))
    have HR4 := Lib.hid (ho4.box HR3.out HNE.out.1)
    have HH4 := Lib.hid (show HintsAt _ A3 c.h.length m3 c.h from (HH3.out.off ho4 fun h0 k o e e2 => (by have h9 : k = cb := e2; have := HF3.out k (by rw [e]; exact ownB_slice.2 rfl); have := HLT.out.1; omega)))
    have HO4 := Lib.hid (HO3b.out.setCell (p := ⟨cb, 16, none⟩) (.inr HCB.out) (.slice A3 c.h.length m3))
    change Code.wp _ _ _ _ (w1.setCell ⟨cb, 16, none⟩ (.slice A3 c.h.length m3))
    clear ho4
    generalize w1.setCell ⟨cb, 16, none⟩ (.slice A3 c.h.length m3) = W4 at *
    go_wp2_with (first | (refine wpList_load_row rfl 25 _ rfl cb rfl 25 (cfgCells c (.slice A3 c.h.length m3)) (0, 0) _ HB4.out Tryz.underlying25 rfl (by kernel_rfl) ?_) | (refine wpList_store_row rfl 25 _ _ rfl rb (cfgCells c (.slice A3 c.h.length m3)) rfl rfl 25 _ HR4.out (by kernel_rfl) rfl (cfgCells_one _ _ _ _) ?_))
    (try simp only [Exit.inBlock, Exit.then])
    refine bodyPost_ret (results_cell_row rfl _ _ rb _ (cfgCells c (.slice A3 c.h.length m3)) (0, 0) _ rfl (HR4.out.setRow' _) Tryz.underlying25 rfl (by kernel_rfl)) rfl ?_
    have hos : Only (Just rb) W4 (W4.setRow rb (cfgCells c (.slice A3 c.h.length m3))) := (Only.refl (Just rb) W4).setRow' (.inl rfl) _
    exact ⟨A3, m3, rfl, HH4.out.off hos (fun h0 k o e e2 => by have h9 : k = rb := e2; have := HF3.out k (by rw [e]; exact ownB_slice.2 rfl); have := HLT.out.2.1; omega), fun k hk => Nat.le_trans HLT.out.2.2 (HF3.out k hk), HO4.out.setRow' (.inr HNE.out.2) _⟩
end
def rcC (c : CfgA) (hv : Value) (tier : Int) (lv mp pp dv : Value) : Array Value := cfgCells c hv ++ #[.int .i64 tier, lv, mp, pp, dv]
section
variable {c : CfgA} {hv lv mp pp dv : Value} {tier : Int} {w : World} {cb : Nat}
theorem rcC_f (hb : Box w cb 154 (rcC c hv tier lv mp pp dv)) {i : Nat} (hi : i < 16) : w.cell? ⟨cb, i, none⟩ = some (.int .i64 (c.f i)) := by
  refine hb.cellAt ?_
  unfold rcC
  rw [Array.getElem?_append_left (by show i < 17; omega)]
  exact cfgCells_at c hv hi
theorem rcC_t (hb : Box w cb 154 (rcC c hv tier lv mp pp dv)) : w.cell? ⟨cb, 17, none⟩ = some (.int .i64 tier) := hb.cellAt rfl
theorem rcC_l (hb : Box w cb 154 (rcC c hv tier lv mp pp dv)) : w.cell? ⟨cb, 18, none⟩ = some lv := hb.cellAt rfl
theorem rcC_m (hb : Box w cb 154 (rcC c hv tier lv mp pp dv)) : w.cell? ⟨cb, 19, none⟩ = some mp := hb.cellAt rfl
theorem rcC_p (hb : Box w cb 154 (rcC c hv tier lv mp pp dv)) : w.cell? ⟨cb, 20, none⟩ = some pp := hb.cellAt rfl
theorem rcC_d (hb : Box w cb 154 (rcC c hv tier lv mp pp dv)) : w.cell? ⟨cb, 21, none⟩ = some dv := hb.cellAt rfl
end
def RAllP (base : Nat) (L : List Int) (w : World) (e : Ending) (w' : World) : Prop := ∃ v, e = .returned v ∧ OwnInts 3 w' base v L ∧ Only Non w w'
section
set_option maxHeartbeats 4000000
set_option maxRecDepth 100000
variable {c : CfgA} {hv lv dv : Value} {tier : Int} {w : World} {cb base : Nat} {L : List Int}
theorem rall_lru (hb : Box w cb 154 (rcC c hv tier lv (.pointer none) (.pointer none) dv)) (h : OwnInts 3 w base lv L) :
    Calls Tryz.prog 26 #[.pointer (some ⟨cb, 0, none⟩)] w (RAllP base L w) := by
  obtain ⟨A, n, rfl, _, _⟩ := h.shape
  have H := Lib.hid h
  have x1 := rcC_l hb
  have x2 := rcC_m hb
  have x3 := rcC_p hb
  clear hb h
  go_enter Tryz.func26, Tryz.ntmps26
  go_wp2_with fail
  go_ret
  exact ⟨_, rfl, H.out, Only.refl _ _⟩
theorem rall_mq {j : RmqJ} {P : MqP} {s : MqS} (hb : Box w cb 154 (rcC c hv tier lv (.pointer (some ⟨j.mb, 0, none⟩)) (.pointer none) dv)) (h : RMq j P s w) (hok : MqOk P s) (hP : P.Ok) :
    Calls Tryz.prog 26 #[.pointer (some ⟨cb, 0, none⟩)] w (RAllP w.heap.size (mqAll P s) w) := by
  have H := Lib.hid (rmq_all h hok hP)
  have x2 := rcC_m hb
  have x3 := rcC_p hb
  clear hb h hok hP
  go_enter Tryz.func26, Tryz.ntmps26
  go_wp2_with (go_at_call 99; refine H.out.mono ?_; rintro e W1 ⟨v, rfl, h1, h2⟩)
  go_ret
  exact ⟨_, rfl, h1, h2⟩
theorem rall_prt {j : RpJ} {l : List HintA} {O : Nat → Nat → Int} {S : Nat → List Int} {blocks : Int} {mp : Value} (hb : Box w cb 154 (rcC c hv tier lv mp (.pointer (some ⟨j.pb, 0, none⟩)) dv)) (h : Rpt j l O S w) (hI : PrtI1 l O j.t S) (hP : hintsP blocks l) :
    Calls Tryz.prog 26 #[.pointer (some ⟨cb, 0, none⟩)] w (RAllP w.heap.size (prtTo S l.length) w) := by
  have H := Lib.hid (rpt_all h hI hP)
  have x3 := rcC_p hb
  clear hb h hI hP
  go_enter Tryz.func26, Tryz.ntmps26
  go_wp2_with (go_at_call 98; refine H.out.mono ?_; rintro e W1 ⟨v, rfl, h1, h2⟩)
  go_ret
  exact ⟨_, rfl, h1, h2⟩
theorem rhas16 {b : Int} (h : Calls Tryz.prog 26 #[.pointer (some ⟨cb, 0, none⟩)] w (RAllP base L w)) :
    Calls Tryz.prog 29 #[.pointer (some ⟨cb, 0, none⟩), .int .i64 b] w fun e w' => e = .returned (.bool (decide (b ∈ L))) ∧ Only Non w w' := by
  have H := Lib.hid h
  clear h
  go_enter Tryz.func29, Tryz.ntmps29
  go_wp2_with (first | (go_at_call 26; refine H.out.mono ?_; rintro e W1 ⟨v, rfl, h1, h2⟩; obtain ⟨A, n, rfl, hs1, hs2⟩ := h1.shape; have HH := Lib.hid (has_ints A n _ L b W1 h1.at (Nat.le_trans hs1 hs2)); have HO := Lib.hid h2; clear h1 h2 hs1 hs2) | (go_at_call 43; refine HH.out.mono ?_; rintro e W2 ⟨rfl, rfl⟩))
  go_ret
  exact ⟨rfl, HO.out⟩
end
section
set_option maxHeartbeats 4000000
set_option maxRecDepth 100000
variable {c : CfgA} {hv lv mp dv : Value} {tier kd b v : Int} {g was : Bool} {w : World} {cb : Nat} {j : RpJ} {l : List HintA} {O : Nat → Nat → Int} {S' : Nat → List Int}
theorem rdo_prt (hb : Box w cb 154 (rcC c hv tier lv mp (.pointer (some ⟨j.pb, 0, none⟩)) dv)) (hB : j.B ≤ w.heap.size) (hr : ∀ k, ownB j.lv k → k < j.B ∧ k ≠ cb)
    (hD : ∀ w', Only Non w w' → Calls Tryz.prog 219 #[.pointer (some ⟨j.pb, 0, none⟩), .agg #[.int .i64 kd, .int .i64 b]] w' (RpDo j l O S' v g was w')) :
    Calls Tryz.prog 162 #[.pointer (some ⟨cb, 0, none⟩), .agg #[.int .i64 kd, .int .i64 b]] w (RpDo j l O S' v g was w) := by
  have HB := Lib.hid hb
  have HD := Lib.hid hD
  have HJ := Lib.hid hB
  have HRN := Lib.hid hr
  have HA0 := Lib.hid (Box.fresh w 255 #[.int .i64 kd, .int .i64 b])
  have HO0 := Lib.hid ((Only.refl Non w).alloc (.cells #[.int .i64 kd, .int .i64 b] 255))
  clear hb hD hB hr
  go_enter Tryz.func162, Tryz.ntmps162
  go_upto_region 1 with fail
  change Code.wp _ _ _ _ ((w.alloc (.cells #[.int .i64 kd, .int .i64 b] 255)).alloc (.cells (wzC 0 false false) 252))
  have hsz : (w.alloc (.cells #[.int .i64 kd, .int .i64 b] 255)).heap.size = w.heap.size + 1 := World.size_alloc ..
  generalize w.alloc (.cells #[.int .i64 kd, .int .i64 b] 255) = W0 at *
  obtain ⟨ab, hab⟩ : ∃ ab, ab = w.heap.size := ⟨_, rfl⟩
  rw [← hab] at HA0 hsz ⊢
  have HAB := Lib.hid (show w.heap.size ≤ ab from Nat.le_of_eq hab.symm)
  clear hab
  have ho1 : Only Non W0 (W0.alloc (.cells (wzC 0 false false) 252)) := (Only.refl Non W0).alloc _
  have HR1 := Lib.hid (Box.fresh W0 252 (wzC 0 false false))
  have HA1 := Lib.hid (ho1.box HA0.out id)
  have HO1 := Lib.hid (HO0.out.trans ho1)
  clear ho1 HA0 HO0
  generalize W0.alloc (.cells (wzC 0 false false) 252) = W1 at *
  rw [hsz] at HR1
  clear hsz
  have HRB := Lib.hid (show w.heap.size ≤ ab + 1 by have := HAB.out; omega)
  generalize ab + 1 = rb at *
  have HNC := Lib.hid (show ¬ ownB j.lv cb ∧ ¬ ownB j.lv ab ∧ ¬ ownB j.lv rb from ⟨fun h => (HRN.out _ h).2 rfl, fun h => by have := (HRN.out _ h).1; have := HJ.out; have := HAB.out; omega, fun h => by have := (HRN.out _ h).1; have := HJ.out; have := HRB.out; omega⟩)
  have x3 := rcC_p (HO1.out.box HB.out id)
  go_upto_region 2 with fail
  have k1 : W1.drew.cell? ⟨cb, 20, none⟩ = some (.pointer (some ⟨j.pb, 0, none⟩)) := x3
  have k2 : Box W1.drew ab 255 #[.int .i64 kd, .int .i64 b] := HA1.out
  refine wp_region_tail (S := (fun w' : World => w'.cell? ⟨cb, 20, none⟩ = some (.pointer (some ⟨j.pb, 0, none⟩)) ∧ Box w' ab 255 #[.int .i64 kd, .int .i64 b])) 6 (by kernel_rfl) (by kernel_rfl) ?_ ?_
  · exact ⟨by assumption, by assumption⟩
  intro hSS
  refine wpHd_take (i := 0) (v := ?_) (by kernel_rfl) rfl (by kernel_rfl) (fun _ _ _ h => h) (.inl ⟨by rfl, ?_⟩) hSS ?_
  rotate_left
  · intro w hSw; (try dsimp only at hSw); go_simp; (try with_reducible rfl)
  refine wpHd_take (i := 1) (v := ?_) (by kernel_rfl) rfl (by kernel_rfl) (fun _ _ _ h => h) (.inl ⟨by rfl, ?_⟩) hSS ?_
  rotate_left
  · intro w hSw; (try dsimp only at hSw); go_simp; (try with_reducible rfl)
  refine wpHd_take (i := 2) (v := ?_) (by kernel_rfl) rfl (by kernel_rfl) (fun _ _ _ h => h) (.inl ⟨by rfl, ?_⟩) hSS ?_
  rotate_left
  · intro w hSw; (try dsimp only at hSw); go_simp; (try with_reducible rfl)
  refine wpHd_take (i := 3) (v := ?_) (by kernel_rfl) rfl (by kernel_rfl) (fun _ _ _ h => h) (.inl ⟨by rfl, ?_⟩) hSS ?_
  rotate_left
  · intro w hSw; (try dsimp only at hSw); go_simp; (try with_reducible rfl)
  refine wpHd_take (i := 4) (v := .agg #[.int .i64 kd, .int .i64 b]) (by kernel_rfl) rfl (by kernel_rfl) (fun _ _ _ h => h) (yieldsIf_load_mid (by rfl) 255 _ rfl ab 0 rfl (#[Value.int .i64 kd, .int .i64 b] : Array Value).toList _ (fun w hw j v hj => by rw [Nat.zero_add]; exact hw.2.cellAt (by rw [← Array.getElem?_toList]; exact hj)) Tryz.underlying255 rfl (by kernel_rfl)) (by assumption) ?_
  try simp only [Act.put, List.getElem_toArray, List.getElem_cons_succ, List.getElem_cons_zero, List.setIfInBounds_toArray, List.set_cons_zero, List.set_cons_succ]
  refine wpHd_one (i := 5) rfl (by kernel_rfl) (fun Kc hK => ?_)
  go_simp
  refine (HD.out W1.drew ((HO1.out).drew)).mono ?_
  rintro e W2 ⟨rfl, h1, h2⟩
  have HR2 := Lib.hid h1
  have HO2 := Lib.hid ((Only.refl (ownB j.lv) W1).drew.trans h2)
  have k1 := h2.cell hSS.1 HNC.out.1
  have k2 := h2.box hSS.2 HNC.out.2.1
  clear h1 h2
  refine hK.out _ _ ?_ (fun hSS => ?_)
  · exact ⟨by assumption, by assumption⟩
  clear hK
  try simp only [Act.put, List.getElem_toArray, List.getElem_cons_succ, List.getElem_cons_zero, List.setIfInBounds_toArray, List.set_cons_zero, List.set_cons_succ]
  refine wpHd_end (by kernel_rfl) ?_
  have HR3 := Lib.hid (HO2.out.box HR1.out HNC.out.2.2)
  have HO3 := Lib.hid ((HO1.out.mono fun _ hb => hb.elim).trans HO2.out)
  clear hSS k1 k2 x3
  refine wpList_store_row rfl 252 _ _ rfl rb (wzC v g was) rfl rfl 252 _ HR3.out (by kernel_rfl) rfl (wzC_one _ _ _) ?_
  go_wp2
  (try simp only [Exit.inBlock, Exit.then])
  refine bodyPost_ret (results_cell_row rfl _ _ rb _ (wzC v g was) (0, 0) _ rfl (HR3.out.setRow' _) Tryz.underlying252 rfl (by kernel_rfl)) rfl ?_
  have hos : Only (Just rb) W2 (W2.setRow rb (wzC v g was)) := (Only.refl (Just rb) W2).setRow' (.inl rfl) _
  obtain ⟨qv, hq⟩ := HR2.out
  exact ⟨rfl, ⟨qv, hq.offT HR3.out (by have := HJ.out; have := HRB.out; omega) hos⟩, HO3.out.setRow' (.inr HRB.out) _⟩
end
def RlDo (c : CfgA) (hv : Value) (tier : Int) (dv : Value) (cb base : Nat) (L' : List Int) (v : Int) (g was : Bool) (w : World) (e : Ending) (w' : World) : Prop :=
  ∃ A n m, e = .returned (.agg (dwC (.slice A n m) v g was 0)) ∧ OwnInts 3 w' base (.slice A n m) L' ∧ Box w' cb 154 (rcC c hv tier (.slice A n m) (.pointer none) (.pointer none) dv) ∧ Only (Just cb) w w'
section
set_option maxHeartbeats 4000000
set_option maxRecDepth 100000
variable {c : CfgA} {hv lv dv : Value} {kd b v : Int} {g was : Bool} {w : World} {cb base k : Nat} {L L' : List Int}
theorem rdo_lru (hk : k < 3) (hb : Box w cb 154 (rcC c hv ((k + 1 : Nat) : Int) lv (.pointer none) (.pointer none) dv)) (hl : OwnInts 3 w base lv L)
    (hD : ∀ w', Only Non w w' → Calls Tryz.prog 220 #[lv, .int .i64 (c.f (9 + k)), .agg #[.int .i64 kd, .int .i64 b]] w' (DoPost base L' v g was w')) :
    Calls Tryz.prog 162 #[.pointer (some ⟨cb, 0, none⟩), .agg #[.int .i64 kd, .int .i64 b]] w (RlDo c hv ((k + 1 : Nat) : Int) dv cb base L' v g was w) := by
  obtain ⟨A, m, rfl, _, _⟩ := hl.shape
  have HB := Lib.hid hb
  have HD := Lib.hid hD
  have HA0 := Lib.hid (Box.fresh w 255 #[.int .i64 kd, .int .i64 b])
  have HO0 := Lib.hid ((Only.refl Non w).alloc (.cells #[.int .i64 kd, .int .i64 b] 255))
  clear hb hD hl
  go_enter Tryz.func162, Tryz.ntmps162
  go_upto_region 1 with fail
  change Code.wp _ _ _ _ ((w.alloc (.cells #[.int .i64 kd, .int .i64 b] 255)).alloc (.cells (wzC 0 false false) 252))
  have hsz : (w.alloc (.cells #[.int .i64 kd, .int .i64 b] 255)).heap.size = w.heap.size + 1 := World.size_alloc ..
  generalize w.alloc (.cells #[.int .i64 kd, .int .i64 b] 255) = W0 at *
  obtain ⟨ab, hab⟩ : ∃ ab, ab = w.heap.size := ⟨_, rfl⟩
  rw [← hab] at HA0 hsz ⊢
  have HAB := Lib.hid (show w.heap.size ≤ ab from Nat.le_of_eq hab.symm)
  clear hab
  have ho1 : Only Non W0 (W0.alloc (.cells (wzC 0 false false) 252)) := (Only.refl Non W0).alloc _
  have HR1 := Lib.hid (Box.fresh W0 252 (wzC 0 false false))
  have HA1 := Lib.hid (ho1.box HA0.out id)
  have HO1 := Lib.hid (HO0.out.trans ho1)
  clear ho1 HA0 HO0
  generalize W0.alloc (.cells (wzC 0 false false) 252) = W1 at *
  rw [hsz] at HR1
  clear hsz
  have HRB := Lib.hid (show w.heap.size ≤ ab + 1 by have := HAB.out; omega)
  generalize ab + 1 = rb at *
  have HB1 := Lib.hid (HO1.out.box HB.out id)
  have x2 := rcC_m HB1.out
  have x3 := rcC_p HB1.out
  go_upto_region 4 with fail
  have kb : Box W1.drew cb 154 (rcC c hv ((k + 1 : Nat) : Int) (.slice A L.length m) (.pointer none) (.pointer none) dv) := HB1.out
  have ka : Box W1.drew ab 255 #[.int .i64 kd, .int .i64 b] := HA1.out
  have hwt : IntKind.i64.wrap (((k + 1 : Nat) : Int) - 1) = k := by rw [IntKind.wrap_i64]; omega
  have hwk : IntKind.i64.wrap (k : Int) = k := by rw [IntKind.wrap_i64]; omega
  have hk3 : (k : Int) < 3 := by omega
  clear x2 x3
  refine wp_region_tail (S := (fun w' : World => Box w' cb 154 (rcC c hv ((k + 1 : Nat) : Int) (.slice A L.length m) (.pointer none) (.pointer none) dv) ∧ Box w' ab 255 #[.int .i64 kd, .int .i64 b] ∧ Only Non w w')) 18 (by kernel_rfl) (by kernel_rfl) ?_ ?_
  · exact ⟨by first | exact hSS.1.alloc _ | exact kb | exact kb.alloc _ | assumption, by first | exact hSS.2.1.alloc _ | exact ka | exact ka.alloc _ | assumption, by first | exact hSS.2.2.alloc _ | exact ko | exact ko.alloc _ | exact HO1.out.drew⟩
  intro hSS
  refine wpHd_take (i := 0) (v := ?_) (by kernel_rfl) rfl (by kernel_rfl) (fun _ _ _ h => h) (.inl ⟨by rfl, ?_⟩) hSS ?_
  rotate_left
  · intro w hSw; (try dsimp only at hSw); go_simp; (try with_reducible rfl)
  refine wpHd_take (i := 1) (v := ?_) (by kernel_rfl) rfl (by kernel_rfl) (fun _ _ _ h => h) (.inl ⟨by rfl, ?_⟩) hSS ?_
  rotate_left
  · intro w hSw; (try dsimp only at hSw); go_simp; (try with_reducible rfl)
  refine wpHd_take (i := 2) (v := ?_) (by kernel_rfl) rfl (by kernel_rfl) (fun _ _ _ h => h) (.inl ⟨by rfl, ?_⟩) hSS ?_
  rotate_left
  · intro w hSw; (try dsimp only at hSw); go_simp; (try with_reducible rfl)
  refine wpHd_take (i := 3) (v := .slice A L.length m) (by kernel_rfl) rfl (by kernel_rfl) (fun _ _ _ h => h) (Or.inl ⟨by rfl, fun w hSw => ?_⟩) (by assumption) ?_
  · have xx := rcC_l hSw.1
    clear hSw
    go_simp
  refine wpHd_take (i := 4) (v := ?_) (by kernel_rfl) rfl (by kernel_rfl) (fun _ _ _ h => h) (.inl ⟨by rfl, ?_⟩) hSS ?_
  rotate_left
  · intro w hSw; (try dsimp only at hSw); go_simp; (try with_reducible rfl)
  try simp only [Act.put, List.getElem_toArray, List.getElem_cons_succ, List.getElem_cons_zero, List.setIfInBounds_toArray, List.set_cons_zero, List.set_cons_succ]
  refine wpHd_take (i := 5) (v := ?_) (by kernel_rfl) rfl (by kernel_rfl) (fun _ _ _ h => h) (.inl ⟨by rfl, ?_⟩) hSS ?_
  rotate_left
  · intro w hSw; (try dsimp only at hSw); go_simp; (try with_reducible rfl)
  refine wpHd_take (i := 6) (v := ?_) (by kernel_rfl) rfl (by kernel_rfl) (fun _ _ _ h => h) (.inl ⟨by rfl, ?_⟩) hSS ?_
  rotate_left
  · intro w hSw; (try dsimp only at hSw); go_simp; (try with_reducible rfl)
  refine wpHd_take (i := 7) (v := ?_) (by kernel_rfl) rfl (by kernel_rfl) (fun _ _ _ h => h) (.inl ⟨by rfl, ?_⟩) hSS ?_
  rotate_left
  · intro w hSw; (try dsimp only at hSw); go_simp; (try with_reducible rfl)
  refine wpHd_take (i := 8) (v := .int .i64 ((k + 1 : Nat) : Int)) (by kernel_rfl) rfl (by kernel_rfl) (fun _ _ _ h => h) (Or.inl ⟨by rfl, fun w hSw => ?_⟩) (by assumption) ?_
  · have xx := rcC_t hSw.1
    clear hSw
    go_simp
  refine wpHd_take (i := 9) (v := ?_) (by kernel_rfl) rfl (by kernel_rfl) (fun _ _ _ h => h) (.inl ⟨by rfl, ?_⟩) hSS ?_
  rotate_left
  · intro w hSw; (try dsimp only at hSw); go_simp; (try with_reducible rfl)
  try simp only [Act.put, List.getElem_toArray, List.getElem_cons_succ, List.getElem_cons_zero, List.setIfInBounds_toArray, List.set_cons_zero, List.set_cons_succ]
  refine wpHd_take (i := 10) (v := ?_) (by kernel_rfl) rfl (by kernel_rfl) (fun _ _ _ h => h) (.inl ⟨by rfl, ?_⟩) hSS ?_
  rotate_left
  · intro w hSw; (try dsimp only at hSw); go_simp; (try with_reducible rfl)
  refine wpHd_take (i := 11) (v := ?_) (by kernel_rfl) rfl (by kernel_rfl) (fun _ _ _ h => h) (.inl ⟨by rfl, ?_⟩) hSS ?_
  rotate_left
  · intro w hSw; (try dsimp only at hSw); go_simp; (try with_reducible rfl)
  refine wpHd_take (i := 12) (v := ?_) (by kernel_rfl) rfl (by kernel_rfl) (fun _ _ _ h => h) (.inl ⟨by rfl, ?_⟩) hSS ?_
  rotate_left
  · intro w hSw; (try dsimp only at hSw); go_simp; (try with_reducible rfl)
  refine wpHd_take (i := 13) (v := ?_) (by kernel_rfl) rfl (by kernel_rfl) (fun _ _ _ h => h) (.inl ⟨by rfl, ?_⟩) hSS ?_
  rotate_left
  · intro w hSw; (try dsimp only at hSw); go_simp; (try with_reducible rfl)
  refine wpHd_take (i := 14) (v := .int .i64 (c.f (9 + k))) (by kernel_rfl) rfl (by kernel_rfl) (fun _ _ _ h => h) (Or.inl ⟨by rfl, fun w hSw => ?_⟩) (by assumption) ?_
  · have xx := rcC_f hSw.1 (i := 9 + k) (by omega)
    clear hSw
    go_simp
  try simp only [Act.put, List.getElem_toArray, List.getElem_cons_succ, List.getElem_cons_zero, List.setIfInBounds_toArray, List.set_cons_zero, List.set_cons_succ]
  refine wpHd_take (i := 15) (v := .agg #[.int .i64 kd, .int .i64 b]) (by kernel_rfl) rfl (by kernel_rfl) (fun _ _ _ h => h) (yieldsIf_load_mid (by rfl) 255 _ rfl ab 0 rfl (#[Value.int .i64 kd, .int .i64 b] : Array Value).toList _ (fun w hw j v hj => by rw [Nat.zero_add]; exact hw.2.1.cellAt (by rw [← Array.getElem?_toList]; exact hj)) Tryz.underlying255 rfl (by kernel_rfl)) (by assumption) ?_
  try simp only [Act.put, List.getElem_toArray, List.getElem_cons_succ, List.getElem_cons_zero, List.setIfInBounds_toArray, List.set_cons_zero, List.set_cons_succ]
  refine wpHd_two (i := 16) (j := 17) rfl rfl (by kernel_rfl) (fun Kc hK => ?_) (fun Kc hK => ?_)
  · go_simp
    refine (HD.out _ hSS.2.2).mono ?_
    rintro e W2 ⟨A2, n2, m2, rfl, h1, h2⟩
    have HV2 := Lib.hid h1
    have kb := h2.box hSS.1 id
    have ka := h2.box hSS.2.1 id
    have ko := hSS.2.2.trans h2
    have kn := Lib.hid h2
    clear h1 h2
    refine hK.out _ _ ?_ (fun hSS => ?_)
    · exact ⟨by first | exact hSS.1.alloc _ | exact kb | exact kb.alloc _ | assumption, by first | exact hSS.2.1.alloc _ | exact ka | exact ka.alloc _ | assumption, by first | exact hSS.2.2.alloc _ | exact ko | exact ko.alloc _ | exact HO1.out.drew⟩
    clear hK
    try simp only [Act.put, List.getElem_toArray, List.getElem_cons_succ, List.getElem_cons_zero, List.setIfInBounds_toArray, List.set_cons_zero, List.set_cons_succ]
    refine wpHd_one (i := 17) rfl (by kernel_rfl) (fun Kc hK => ?_)
    go_simp
    refine hK.out _ _ ?_ (fun hSS => ?_)
    · exact ⟨by first | exact hSS.1.alloc _ | exact kb | exact kb.alloc _ | assumption, by first | exact hSS.2.1.alloc _ | exact ka | exact ka.alloc _ | assumption, by first | exact hSS.2.2.alloc _ | exact ko | exact ko.alloc _ | exact HO1.out.drew⟩
    clear hK
    try simp only [Act.put, List.getElem_toArray, List.getElem_cons_succ, List.getElem_cons_zero, List.setIfInBounds_toArray, List.set_cons_zero, List.set_cons_succ]
    refine wpHd_end (by kernel_rfl) ?_
    have hal : Only Non W2 (W2.alloc (.cells (wzC 0 false false) 252)) := (Only.refl Non W2).alloc _
    have HEt := Lib.hid (Box.fresh W2 252 (wzC 0 false false))
    have HVt := Lib.hid (HV2.out.only hal fun _ _ => id)
    have HEB := Lib.hid (show w.heap.size ≤ W2.heap.size from ko.size)
    have HRt := Lib.hid ((hal.box (kn.out.box (((Only.refl Non W1).drew).box HR1.out id) id) id))
    have HNE := Lib.hid (show rb ≠ W2.heap.size from Nat.ne_of_lt (kn.out.box (((Only.refl Non W1).drew).box HR1.out id) id).lt)
    have HBt := Lib.hid (show Box (W2.alloc (.cells (wzC 0 false false) 252)) _ _ _ from hSS.1)
    have HOt := Lib.hid (show Only Non w (W2.alloc (.cells (wzC 0 false false) 252)) from hSS.2.2)
    clear hSS kb ka ko kn hal HR1
    change wpList _ _ _ _ _ (W2.alloc (.cells (wzC 0 false false) 252))
    generalize W2.alloc (.cells (wzC 0 false false) 252) = Wt at *
    generalize W2.heap.size = eb at *
    refine wpList_store_row rfl 252 _ _ rfl eb (dwC (.slice A2 n2 m2) v g was 0) rfl rfl 252 _ HEt.out (by kernel_rfl) rfl (dwC_one _ _ _ _ _ _ _) ?_
    go_upto_region 5 with fail
    have hse : Only (Just eb) Wt (Wt.setRow eb (dwC (.slice A2 n2 m2) v g was 0)) := (Only.refl (Just eb) Wt).setRow' (.inl rfl) _
    have HEu := Lib.hid (HEt.out.setRow' (dwC (.slice A2 n2 m2) v g was 0))
    have HRu := Lib.hid (hse.box HRt.out HNE.out)
    have HBu := Lib.hid (hse.box HBt.out (HBt.out.off HEt.out (by decide)))
    have HVu := Lib.hid (HVt.out.only hse fun g hg e => by
      obtain ⟨cs, h9⟩ := HVt.out.boxOf hg
      exact (h9.off HEt.out (by decide)) e)
    have HOu := Lib.hid (HOt.out.setRow' (.inr HEB.out) (dwC (.slice A2 n2 m2) v g was 0))
    change Code.wp _ _ _ _ (Wt.setRow eb (dwC (.slice A2 n2 m2) v g was 0))
    clear hse HEt HRt HBt HVt HOt
    generalize Wt.setRow eb (dwC (.slice A2 n2 m2) v g was 0) = Wu at *
    have y0 : Wu.cell? ⟨eb, 0, none⟩ = some (.slice A2 n2 m2) := HEu.out.cellAt rfl
    have y18 := rcC_l HBu.out
    have f18 : Wu.frozen? ⟨cb, 18, none⟩ = false := HBu.out.free 18
    go_upto_region 6 with fail
    have hsc : Only (Just cb) Wu (Wu.setCell ⟨cb, 18, none⟩ (.slice A2 n2 m2)) := (Only.refl (Just cb) Wu).setCell (p := ⟨cb, 18, none⟩) (.inl (show Just cb cb from rfl)) _
    have HBw := Lib.hid (show Box _ cb 154 (rcC c hv ((k + 1 : Nat) : Int) (.slice A2 n2 m2) (.pointer none) (.pointer none) dv) from HBu.out.store 18 (.slice A2 n2 m2))
    have HEw := Lib.hid (hsc.box HEu.out (HEu.out.off HBu.out (by decide)))
    have HRw := Lib.hid (hsc.box HRu.out (HRu.out.off HBu.out (by decide)))
    have HVw := Lib.hid (HVu.out.only hsc fun g hg e => by
      obtain ⟨cs, h9⟩ := HVu.out.boxOf hg
      exact (h9.off HBu.out (by decide)) e)
    have HOw := Lib.hid (show Only (Just cb) w _ from ((HOu.out.mono fun _ hb => hb.elim : Only (Just cb) w Wu)).trans hsc)
    change Code.wp _ _ _ _ (Wu.setCell ⟨cb, 18, none⟩ (.slice A2 n2 m2))
    clear hsc HEu HRu HBu HVu HOu y0 y18 f18
    generalize Wu.setCell ⟨cb, 18, none⟩ (.slice A2 n2 m2) = Ww at *
    go_wp2_with (first | (refine wpList_load_row rfl 252 _ rfl eb rfl 252 (dwC (.slice A2 n2 m2) v g was 0) (0, 0) _ HEw.out Tryz.underlying252 rfl (by kernel_rfl) ?_) | (refine wpList_store_row rfl 252 _ _ rfl rb (dwC (.slice A2 n2 m2) v g was 0) rfl rfl 252 _ HRw.out (by kernel_rfl) rfl (dwC_one _ _ _ _ _ _ _) ?_))
    (try simp only [Exit.inBlock, Exit.then])
    refine bodyPost_ret (results_cell_row rfl _ _ rb _ (dwC (.slice A2 n2 m2) v g was 0) (0, 0) _ rfl (HRw.out.setRow' _) Tryz.underlying252 rfl (by kernel_rfl)) rfl ?_
    have hos : Only (Just rb) Ww (Ww.setRow rb (dwC (.slice A2 n2 m2) v g was 0)) := (Only.refl (Just rb) Ww).setRow' (.inl rfl) _
    exact ⟨A2, n2, m2, rfl, HVw.out.only hos fun g hg e => (by
      obtain ⟨cs, h9⟩ := HVw.out.boxOf hg
      exact (h9.off HRw.out (by decide)) e), hos.box HBw.out (HBw.out.off HRw.out (by decide)), HOw.out.setRow' (.inr HRB.out) _⟩
  · go_simp
    refine hK.out _ _ ?_ (fun hSS => ?_)
    · exact ⟨by first | exact hSS.1.alloc _ | exact kb | exact kb.alloc _ | assumption, by first | exact hSS.2.1.alloc _ | exact ka | exact ka.alloc _ | assumption, by first | exact hSS.2.2.alloc _ | exact ko | exact ko.alloc _ | exact HO1.out.drew⟩
    clear hK
    try simp only [Act.put, List.getElem_toArray, List.getElem_cons_succ, List.getElem_cons_zero, List.setIfInBounds_toArray, List.set_cons_zero, List.set_cons_succ]
    refine wpHd_one (i := 16) rfl (by kernel_rfl) (fun Kc hK => ?_)
    go_simp
    refine (HD.out _ hSS.2.2).mono ?_
    rintro e W2 ⟨A2, n2, m2, rfl, h1, h2⟩
    have HV2 := Lib.hid h1
    have kb := h2.box hSS.1 id
    have ka := h2.box hSS.2.1 id
    have ko := hSS.2.2.trans h2
    have kn := Lib.hid h2
    clear h1 h2
    refine hK.out _ _ ?_ (fun hSS => ?_)
    · exact ⟨by first | exact hSS.1.alloc _ | exact kb | exact kb.alloc _ | assumption, by first | exact hSS.2.1.alloc _ | exact ka | exact ka.alloc _ | assumption, by first | exact hSS.2.2.alloc _ | exact ko | exact ko.alloc _ | exact HO1.out.drew⟩
    clear hK
    try simp only [Act.put, List.getElem_toArray, List.getElem_cons_succ, List.getElem_cons_zero, List.setIfInBounds_toArray, List.set_cons_zero, List.set_cons_succ]
    refine wpHd_end (by kernel_rfl) ?_
    have HEt := Lib.hid (kn.out.box (Box.fresh W1.drew 252 (wzC 0 false false)) id)
    have HVt := Lib.hid HV2.out
    have HEB := Lib.hid (show w.heap.size ≤ W1.heap.size from HO1.out.size)
    have HRt := Lib.hid (kn.out.box ((((Only.refl Non W1).drew).alloc (.cells (wzC 0 false false) 252)).box HR1.out id) id)
    have HNE := Lib.hid (show rb ≠ W1.heap.size from Nat.ne_of_lt HR1.out.lt)
    have HBt := Lib.hid hSS.1
    have HOt := Lib.hid hSS.2.2
    clear hSS kb ka ko kn HR1
    generalize W2 = Wt at *
    have hWW : W1.drew.heap.size = W1.heap.size := rfl
    rw [hWW] at HEt
    clear hWW
    generalize W1.heap.size = eb at *
    refine wpList_store_row rfl 252 _ _ rfl eb (dwC (.slice A2 n2 m2) v g was 0) rfl rfl 252 _ HEt.out (by kernel_rfl) rfl (dwC_one _ _ _ _ _ _ _) ?_
    go_upto_region 5 with fail
    have hse : Only (Just eb) Wt (Wt.setRow eb (dwC (.slice A2 n2 m2) v g was 0)) := (Only.refl (Just eb) Wt).setRow' (.inl rfl) _
    have HEu := Lib.hid (HEt.out.setRow' (dwC (.slice A2 n2 m2) v g was 0))
    have HRu := Lib.hid (hse.box HRt.out HNE.out)
    have HBu := Lib.hid (hse.box HBt.out (HBt.out.off HEt.out (by decide)))
    have HVu := Lib.hid (HVt.out.only hse fun g hg e => by
      obtain ⟨cs, h9⟩ := HVt.out.boxOf hg
      exact (h9.off HEt.out (by decide)) e)
    have HOu := Lib.hid (HOt.out.setRow' (.inr HEB.out) (dwC (.slice A2 n2 m2) v g was 0))
    change Code.wp _ _ _ _ (Wt.setRow eb (dwC (.slice A2 n2 m2) v g was 0))
    clear hse HEt HRt HBt HVt HOt
    generalize Wt.setRow eb (dwC (.slice A2 n2 m2) v g was 0) = Wu at *
    have y0 : Wu.cell? ⟨eb, 0, none⟩ = some (.slice A2 n2 m2) := HEu.out.cellAt rfl
    have y18 := rcC_l HBu.out
    have f18 : Wu.frozen? ⟨cb, 18, none⟩ = false := HBu.out.free 18
    go_upto_region 6 with fail
    have hsc : Only (Just cb) Wu (Wu.setCell ⟨cb, 18, none⟩ (.slice A2 n2 m2)) := (Only.refl (Just cb) Wu).setCell (p := ⟨cb, 18, none⟩) (.inl (show Just cb cb from rfl)) _
    have HBw := Lib.hid (show Box _ cb 154 (rcC c hv ((k + 1 : Nat) : Int) (.slice A2 n2 m2) (.pointer none) (.pointer none) dv) from HBu.out.store 18 (.slice A2 n2 m2))
    have HEw := Lib.hid (hsc.box HEu.out (HEu.out.off HBu.out (by decide)))
    have HRw := Lib.hid (hsc.box HRu.out (HRu.out.off HBu.out (by decide)))
    have HVw := Lib.hid (HVu.out.only hsc fun g hg e => by
      obtain ⟨cs, h9⟩ := HVu.out.boxOf hg
      exact (h9.off HBu.out (by decide)) e)
    have HOw := Lib.hid (show Only (Just cb) w _ from ((HOu.out.mono fun _ hb => hb.elim : Only (Just cb) w Wu)).trans hsc)
    change Code.wp _ _ _ _ (Wu.setCell ⟨cb, 18, none⟩ (.slice A2 n2 m2))
    clear hsc HEu HRu HBu HVu HOu y0 y18 f18
    generalize Wu.setCell ⟨cb, 18, none⟩ (.slice A2 n2 m2) = Ww at *
    go_wp2_with (first | (refine wpList_load_row rfl 252 _ rfl eb rfl 252 (dwC (.slice A2 n2 m2) v g was 0) (0, 0) _ HEw.out Tryz.underlying252 rfl (by kernel_rfl) ?_) | (refine wpList_store_row rfl 252 _ _ rfl rb (dwC (.slice A2 n2 m2) v g was 0) rfl rfl 252 _ HRw.out (by kernel_rfl) rfl (dwC_one _ _ _ _ _ _ _) ?_))
    (try simp only [Exit.inBlock, Exit.then])
    refine bodyPost_ret (results_cell_row rfl _ _ rb _ (dwC (.slice A2 n2 m2) v g was 0) (0, 0) _ rfl (HRw.out.setRow' _) Tryz.underlying252 rfl (by kernel_rfl)) rfl ?_
    have hos : Only (Just rb) Ww (Ww.setRow rb (dwC (.slice A2 n2 m2) v g was 0)) := (Only.refl (Just rb) Ww).setRow' (.inl rfl) _
    exact ⟨A2, n2, m2, rfl, HVw.out.only hos fun g hg e => (by
      obtain ⟨cs, h9⟩ := HVw.out.boxOf hg
      exact (h9.off HRw.out (by decide)) e), hos.box HBw.out (HBw.out.off HRw.out (by decide)), HOw.out.setRow' (.inr HRB.out) _⟩
end
theorem RMq.offU {j : RmqJ} {P : MqP} {s : MqS} {w w' : World} (h : RMq j P s w) {g : Nat} {cs : Array Value} {t : TypeId} (hb : Box w g t cs) (h1 : 250 ≠ t) (h2 : 43 ≠ t) (h3 : 3 ≠ t) (ho : Only (Just g) w w') : RMq j P s w' := by
  obtain ⟨gv, qv, h⟩ := h
  have nI : ∀ {v : Value} {l : List Int}, OwnInts 3 w j.B v l → ∀ k, ownB v k → ¬ Just g k := fun hv k hk e => by
    obtain ⟨c2, h4⟩ := hv.boxOf hk
    exact (h4.off hb h3) e
  refine ⟨gv, qv, ho.box h.box (h.box.off hb h1), h.row.only ho fun k hk e => ?_, fun i hi => (h.q i hi).only ho (nI (h.q i hi)), h.g.only ho (nI h.g), ho.box h.of (h.of.off hb h3), ho.box h.ex (h.ex.off hb h3), h.lt, h.ne, Nat.le_trans h.bs ho.size⟩
  obtain ⟨c2, h4⟩ := h.row.box hk
  exact (h4.off hb h2) e
def RmDo (j : RmqJ) (P : MqP) (s' : MqS) (v : Int) (g was : Bool) (w : World) (e : Ending) (w' : World) : Prop :=
  e = .returned (.agg (wzC v g was)) ∧ RMq j P s' w' ∧ Only (RF j) w w'
section
set_option maxHeartbeats 4000000
set_option maxRecDepth 100000
variable {c : CfgA} {hv lv dv : Value} {tier : Int} {w : World} {cb n : Nat} {j : RmqJ} {P : MqP} {s : MqS}
theorem rdo_mq_use (hb : Box w cb 154 (rcC c hv tier lv (.pointer (some ⟨j.mb, 0, none⟩)) (.pointer none) dv)) (hcb : ¬ RF j cb) (h : RMq j P s w) (hok : MqOk P s) (hP : P.Ok) (h1 : s.now ≤ 1000000000) (hn : (n : Int) ∈ mqAll P s) :
    Calls Tryz.prog 162 #[.pointer (some ⟨cb, 0, none⟩), .agg #[.int .i64 0, .int .i64 n]] w (RmDo j P (mqUse P s n) 0 false true w) := by
  have HB := Lib.hid hb
  have HH := Lib.hid h
  have HK := Lib.hid hok
  have HP := Lib.hid hP
  have HD := Lib.hid (fun (W : World) (hr : RMq j P s W) => rmq_use_in (n := n) hr hok hP h1 hn)
  have HMB := Lib.hid (show decide ((n : Int) ∈ mqAll P s) = true from decide_eq_true hn)
  have HA0 := Lib.hid (Box.fresh w 255 #[.int .i64 0, .int .i64 n])
  have HO0 := Lib.hid ((Only.refl Non w).alloc (.cells #[.int .i64 0, .int .i64 n] 255))
  clear hb h hok hP hn
  go_enter Tryz.func162, Tryz.ntmps162
  go_upto_region 1 with fail
  change Code.wp _ _ _ _ ((w.alloc (.cells #[.int .i64 0, .int .i64 n] 255)).alloc (.cells (wzC 0 false false) 252))
  have hsz : (w.alloc (.cells #[.int .i64 0, .int .i64 n] 255)).heap.size = w.heap.size + 1 := World.size_alloc ..
  generalize w.alloc (.cells #[.int .i64 0, .int .i64 n] 255) = W0 at *
  obtain ⟨ab, hab⟩ : ∃ ab, ab = w.heap.size := ⟨_, rfl⟩
  rw [← hab] at HA0 hsz ⊢
  have HAB := Lib.hid (show w.heap.size ≤ ab from Nat.le_of_eq hab.symm)
  clear hab
  have ho1 : Only Non W0 (W0.alloc (.cells (wzC 0 false false) 252)) := (Only.refl Non W0).alloc _
  have HR1 := Lib.hid (Box.fresh W0 252 (wzC 0 false false))
  have HA1 := Lib.hid (ho1.box HA0.out id)
  have HO1 := Lib.hid (HO0.out.trans ho1)
  clear ho1 HA0 HO0
  generalize W0.alloc (.cells (wzC 0 false false) 252) = W1 at *
  rw [hsz] at HR1
  clear hsz
  have HRB := Lib.hid (show w.heap.size ≤ ab + 1 by have := HAB.out; omega)
  generalize ab + 1 = rb at *
  have HB1 := Lib.hid (HO1.out.box HB.out id)
  have x2 := rcC_m HB1.out
  have x3 := rcC_p HB1.out
  have y1 : W1.cell? ⟨ab, 1, none⟩ = some (.int .i64 n) := HA1.out.cellAt rfl
  have HHS := Lib.hid (rhas16 (b := (n : Int)) (rall_mq HB1.out (HH.out.keep HO1.out) HK.out HP.out))
  rw [HMB.out] at HHS
  go_upto_region 8 with (go_at_call 29; refine HHS.out.mono ?_; rintro e Wm ⟨rfl, hm⟩; have HNm := Lib.hid hm; clear hm)
  change Code.wp _ _ _ _ (Wm.alloc (.cells (wzC 0 false true) 252))
  have ho2 : Only Non W1 (Wm.alloc (.cells (wzC 0 false true) 252)) := HNm.out.alloc _
  have HE3 := Lib.hid (Box.fresh Wm 252 (wzC 0 false true))
  have HR3 := Lib.hid (ho2.box HR1.out id)
  have HA3 := Lib.hid (ho2.box HA1.out id)
  have HB3 := Lib.hid (ho2.box HB1.out id)
  have HO3 := Lib.hid (HO1.out.trans ho2)
  have HEB := Lib.hid (show w.heap.size ≤ Wm.heap.size from (HO1.out.trans HNm.out).size)
  clear ho2 HHS HR1 HA1 HB1 HO1 HNm x2 x3 y1
  generalize Wm.alloc (.cells (wzC 0 false true) 252) = W3 at *
  generalize Wm.heap.size = eb at *
  have HNC := Lib.hid (show ¬ RF j cb ∧ ¬ RF j ab ∧ ¬ RF j rb ∧ ¬ RF j eb from ⟨hcb, HH.out.notRF HAB.out, HH.out.notRF HRB.out, HH.out.notRF HEB.out⟩)
  have HD := Lib.hid (fun (W : World) (ho : Only Non W3 W) => HD.out W (HH.out.keep (HO3.out.trans ho)))
  have y0 : W3.cell? ⟨ab, 0, none⟩ = some (.int .i64 0) := HA3.out.cellAt rfl
  go_upto_region 9 with fail
  have k1 : W3.drew.cell? ⟨cb, 19, none⟩ = some (.pointer (some ⟨j.mb, 0, none⟩)) := rcC_m HB3.out
  have k2 : W3.drew.cell? ⟨ab, 1, none⟩ = some (.int .i64 n) := HA3.out.cellAt rfl
  refine wp_region_tail (S := (fun w' : World => w'.cell? ⟨cb, 19, none⟩ = some (.pointer (some ⟨j.mb, 0, none⟩)) ∧ w'.cell? ⟨ab, 1, none⟩ = some (.int .i64 n))) 6 (by kernel_rfl) (by kernel_rfl) ?_ ?_
  · exact ⟨by assumption, by assumption⟩
  intro hSS
  refine wpHd_take (i := 0) (v := ?_) (by kernel_rfl) rfl (by kernel_rfl) (fun _ _ _ h => h) (.inl ⟨by rfl, ?_⟩) hSS ?_
  rotate_left
  · intro w hSw; (try dsimp only at hSw); go_simp; (try with_reducible rfl)
  refine wpHd_take (i := 1) (v := ?_) (by kernel_rfl) rfl (by kernel_rfl) (fun _ _ _ h => h) (.inl ⟨by rfl, ?_⟩) hSS ?_
  rotate_left
  · intro w hSw; (try dsimp only at hSw); go_simp; (try with_reducible rfl)
  refine wpHd_take (i := 2) (v := ?_) (by kernel_rfl) rfl (by kernel_rfl) (fun _ _ _ h => h) (.inl ⟨by rfl, ?_⟩) hSS ?_
  rotate_left
  · intro w hSw; (try dsimp only at hSw); go_simp; (try with_reducible rfl)
  refine wpHd_take (i := 3) (v := ?_) (by kernel_rfl) rfl (by kernel_rfl) (fun _ _ _ h => h) (.inl ⟨by rfl, ?_⟩) hSS ?_
  rotate_left
  · intro w hSw; (try dsimp only at hSw); go_simp; (try with_reducible rfl)
  refine wpHd_take (i := 4) (v := ?_) (by kernel_rfl) rfl (by kernel_rfl) (fun _ _ _ h => h) (.inl ⟨by rfl, ?_⟩) hSS ?_
  rotate_left
  · intro w hSw; (try dsimp only at hSw); go_simp; (try with_reducible rfl)
  try simp only [Act.put, List.getElem_toArray, List.getElem_cons_succ, List.getElem_cons_zero, List.setIfInBounds_toArray, List.set_cons_zero, List.set_cons_succ]
  refine wpHd_take (i := 5) (v := ?_) (by kernel_rfl) rfl (by kernel_rfl) (fun _ _ _ h => h) (.inl ⟨by rfl, ?_⟩) hSS ?_
  rotate_left
  · intro w hSw; (try dsimp only at hSw); go_simp; (try with_reducible rfl)
  try simp only [Act.put, List.getElem_toArray, List.getElem_cons_succ, List.getElem_cons_zero, List.setIfInBounds_toArray, List.set_cons_zero, List.set_cons_succ]
  refine wpHd_end (by kernel_rfl) ?_
  clear hSS k1 k2 y0
  have y0 : W3.drew.cell? ⟨ab, 0, none⟩ = some (.int .i64 0) := HA3.out.cellAt rfl
  go_upto_region 17 with (go_at_call 221; refine (HD.out W3.drew ((Only.refl Non W3).drew)).mono ?_; rintro e W4 ⟨rfl, h1, h2⟩; have HR4 := Lib.hid h1; have HO4 := Lib.hid ((Only.refl (RF j) W3).drew.trans h2); have y9 := h2.cell y0 HNC.out.2.1; clear h1 h2)
  have HE4 := Lib.hid (HO4.out.box HE3.out HNC.out.2.2.2)
  have HR4b := Lib.hid (HO4.out.box HR3.out HNC.out.2.2.1)
  have HO5 := Lib.hid ((HO3.out.mono fun _ hb => hb.elim).trans HO4.out)
  go_wp2_with (first | (refine wpList_load_row rfl 252 _ rfl eb rfl 252 (wzC 0 false true) (0, 0) _ HE4.out Tryz.underlying252 rfl (by kernel_rfl) ?_) | (refine wpList_store_row rfl 252 _ _ rfl rb (wzC 0 false true) rfl rfl 252 _ HR4b.out (by kernel_rfl) rfl (wzC_one _ _ _) ?_))
  (try simp only [Exit.inBlock, Exit.then])
  refine bodyPost_ret (results_cell_row rfl _ _ rb _ (wzC 0 false true) (0, 0) _ rfl (HR4b.out.setRow' _) Tryz.underlying252 rfl (by kernel_rfl)) rfl ?_
  have hos : Only (Just rb) W4 (W4.setRow rb (wzC 0 false true)) := (Only.refl (Just rb) W4).setRow' (.inl rfl) _
  exact ⟨rfl, HR4.out.offU HR4b.out (by decide) (by decide) (by decide) hos, HO5.out.setRow' (.inr HRB.out) _⟩
theorem rdo_mq_rem (hb : Box w cb 154 (rcC c hv tier lv (.pointer (some ⟨j.mb, 0, none⟩)) (.pointer none) dv)) (hcb : ¬ RF j cb) (h : RMq j P s w) (hok : MqOk P s) (hP : P.Ok) (hn : (n : Int) ∈ mqAll P s) :
    Calls Tryz.prog 162 #[.pointer (some ⟨cb, 0, none⟩), .agg #[.int .i64 2, .int .i64 n]] w (RmDo j P (mqRem s n) 0 false true w) := by
  have HB := Lib.hid hb
  have HH := Lib.hid h
  have HK := Lib.hid hok
  have HP := Lib.hid hP
  have HD := Lib.hid (fun (W : World) (hr : RMq j P s W) => rmq_rem (n := n) hr hok hP hn)
  have HMB := Lib.hid (show decide ((n : Int) ∈ mqAll P s) = true from decide_eq_true hn)
  have HA0 := Lib.hid (Box.fresh w 255 #[.int .i64 2, .int .i64 n])
  have HO0 := Lib.hid ((Only.refl Non w).alloc (.cells #[.int .i64 2, .int .i64 n] 255))
  clear hb h hok hP hn
  go_enter Tryz.func162, Tryz.ntmps162
  go_upto_region 1 with fail
  change Code.wp _ _ _ _ ((w.alloc (.cells #[.int .i64 2, .int .i64 n] 255)).alloc (.cells (wzC 0 false false) 252))
  have hsz : (w.alloc (.cells #[.int .i64 2, .int .i64 n] 255)).heap.size = w.heap.size + 1 := World.size_alloc ..
  generalize w.alloc (.cells #[.int .i64 2, .int .i64 n] 255) = W0 at *
  obtain ⟨ab, hab⟩ : ∃ ab, ab = w.heap.size := ⟨_, rfl⟩
  rw [← hab] at HA0 hsz ⊢
  have HAB := Lib.hid (show w.heap.size ≤ ab from Nat.le_of_eq hab.symm)
  clear hab
  have ho1 : Only Non W0 (W0.alloc (.cells (wzC 0 false false) 252)) := (Only.refl Non W0).alloc _
  have HR1 := Lib.hid (Box.fresh W0 252 (wzC 0 false false))
  have HA1 := Lib.hid (ho1.box HA0.out id)
  have HO1 := Lib.hid (HO0.out.trans ho1)
  clear ho1 HA0 HO0
  generalize W0.alloc (.cells (wzC 0 false false) 252) = W1 at *
  rw [hsz] at HR1
  clear hsz
  have HRB := Lib.hid (show w.heap.size ≤ ab + 1 by have := HAB.out; omega)
  generalize ab + 1 = rb at *
  have HB1 := Lib.hid (HO1.out.box HB.out id)
  have x2 := rcC_m HB1.out
  have x3 := rcC_p HB1.out
  have y1 : W1.cell? ⟨ab, 1, none⟩ = some (.int .i64 n) := HA1.out.cellAt rfl
  have HHS := Lib.hid (rhas16 (b := (n : Int)) (rall_mq HB1.out (HH.out.keep HO1.out) HK.out HP.out))
  rw [HMB.out] at HHS
  go_upto_region 8 with (go_at_call 29; refine HHS.out.mono ?_; rintro e Wm ⟨rfl, hm⟩; have HNm := Lib.hid hm; clear hm)
  change Code.wp _ _ _ _ (Wm.alloc (.cells (wzC 0 false true) 252))
  have ho2 : Only Non W1 (Wm.alloc (.cells (wzC 0 false true) 252)) := HNm.out.alloc _
  have HE3 := Lib.hid (Box.fresh Wm 252 (wzC 0 false true))
  have HR3 := Lib.hid (ho2.box HR1.out id)
  have HA3 := Lib.hid (ho2.box HA1.out id)
  have HB3 := Lib.hid (ho2.box HB1.out id)
  have HO3 := Lib.hid (HO1.out.trans ho2)
  have HEB := Lib.hid (show w.heap.size ≤ Wm.heap.size from (HO1.out.trans HNm.out).size)
  clear ho2 HHS HR1 HA1 HB1 HO1 HNm x2 x3 y1
  generalize Wm.alloc (.cells (wzC 0 false true) 252) = W3 at *
  generalize Wm.heap.size = eb at *
  have HNC := Lib.hid (show ¬ RF j cb ∧ ¬ RF j ab ∧ ¬ RF j rb ∧ ¬ RF j eb from ⟨hcb, HH.out.notRF HAB.out, HH.out.notRF HRB.out, HH.out.notRF HEB.out⟩)
  have HD := Lib.hid (fun (W : World) (ho : Only Non W3 W) => HD.out W (HH.out.keep (HO3.out.trans ho)))
  have y0 : W3.cell? ⟨ab, 0, none⟩ = some (.int .i64 2) := HA3.out.cellAt rfl
  go_upto_region 16 with fail
  have k1 : W3.drew.cell? ⟨cb, 19, none⟩ = some (.pointer (some ⟨j.mb, 0, none⟩)) := rcC_m HB3.out
  have k2 : W3.drew.cell? ⟨ab, 1, none⟩ = some (.int .i64 n) := HA3.out.cellAt rfl
  refine wp_region_tail (S := (fun w' : World => w'.cell? ⟨cb, 19, none⟩ = some (.pointer (some ⟨j.mb, 0, none⟩)) ∧ w'.cell? ⟨ab, 1, none⟩ = some (.int .i64 n))) 6 (by kernel_rfl) (by kernel_rfl) ?_ ?_
  · exact ⟨by assumption, by assumption⟩
  intro hSS
  refine wpHd_take (i := 0) (v := ?_) (by kernel_rfl) rfl (by kernel_rfl) (fun _ _ _ h => h) (.inl ⟨by rfl, ?_⟩) hSS ?_
  rotate_left
  · intro w hSw; (try dsimp only at hSw); go_simp; (try with_reducible rfl)
  refine wpHd_take (i := 1) (v := ?_) (by kernel_rfl) rfl (by kernel_rfl) (fun _ _ _ h => h) (.inl ⟨by rfl, ?_⟩) hSS ?_
  rotate_left
  · intro w hSw; (try dsimp only at hSw); go_simp; (try with_reducible rfl)
  refine wpHd_take (i := 2) (v := ?_) (by kernel_rfl) rfl (by kernel_rfl) (fun _ _ _ h => h) (.inl ⟨by rfl, ?_⟩) hSS ?_
  rotate_left
  · intro w hSw; (try dsimp only at hSw); go_simp; (try with_reducible rfl)
  refine wpHd_take (i := 3) (v := ?_) (by kernel_rfl) rfl (by kernel_rfl) (fun _ _ _ h => h) (.inl ⟨by rfl, ?_⟩) hSS ?_
  rotate_left
  · intro w hSw; (try dsimp only at hSw); go_simp; (try with_reducible rfl)
  refine wpHd_take (i := 4) (v := ?_) (by kernel_rfl) rfl (by kernel_rfl) (fun _ _ _ h => h) (.inl ⟨by rfl, ?_⟩) hSS ?_
  rotate_left
  · intro w hSw; (try dsimp only at hSw); go_simp; (try with_reducible rfl)
  try simp only [Act.put, List.getElem_toArray, List.getElem_cons_succ, List.getElem_cons_zero, List.setIfInBounds_toArray, List.set_cons_zero, List.set_cons_succ]
  refine wpHd_take (i := 5) (v := ?_) (by kernel_rfl) rfl (by kernel_rfl) (fun _ _ _ h => h) (.inl ⟨by rfl, ?_⟩) hSS ?_
  rotate_left
  · intro w hSw; (try dsimp only at hSw); go_simp; (try with_reducible rfl)
  try simp only [Act.put, List.getElem_toArray, List.getElem_cons_succ, List.getElem_cons_zero, List.setIfInBounds_toArray, List.set_cons_zero, List.set_cons_succ]
  refine wpHd_end (by kernel_rfl) ?_
  clear hSS k1 k2 y0
  have y0 : W3.drew.cell? ⟨ab, 0, none⟩ = some (.int .i64 2) := HA3.out.cellAt rfl
  go_upto_region 17 with (go_at_call 223; refine (HD.out W3.drew ((Only.refl Non W3).drew)).mono ?_; rintro e W4 ⟨rfl, h1, h2⟩; have HR4 := Lib.hid h1; have HO4 := Lib.hid ((Only.refl (RF j) W3).drew.trans h2); have y9 := h2.cell y0 HNC.out.2.1; clear h1 h2)
  have HE4 := Lib.hid (HO4.out.box HE3.out HNC.out.2.2.2)
  have HR4b := Lib.hid (HO4.out.box HR3.out HNC.out.2.2.1)
  have HO5 := Lib.hid ((HO3.out.mono fun _ hb => hb.elim).trans HO4.out)
  go_wp2_with (first | (refine wpList_load_row rfl 252 _ rfl eb rfl 252 (wzC 0 false true) (0, 0) _ HE4.out Tryz.underlying252 rfl (by kernel_rfl) ?_) | (refine wpList_store_row rfl 252 _ _ rfl rb (wzC 0 false true) rfl rfl 252 _ HR4b.out (by kernel_rfl) rfl (wzC_one _ _ _) ?_))
  (try simp only [Exit.inBlock, Exit.then])
  refine bodyPost_ret (results_cell_row rfl _ _ rb _ (wzC 0 false true) (0, 0) _ rfl (HR4b.out.setRow' _) Tryz.underlying252 rfl (by kernel_rfl)) rfl ?_
  have hos : Only (Just rb) W4 (W4.setRow rb (wzC 0 false true)) := (Only.refl (Just rb) W4).setRow' (.inl rfl) _
  exact ⟨rfl, HR4.out.offU HR4b.out (by decide) (by decide) (by decide) hos, HO5.out.setRow' (.inr HRB.out) _⟩
end
section
variable {j : RmqJ} {P : MqP} {s : MqS} {w : World}
theorem rmq_add {n : Nat} (h : RMq j P s w) (hI : MqI P s) (hP : P.Ok) (h1 : s.now ≤ 1000000000) (hn : n < 64) :
    Calls Tryz.prog 222 #[.pointer (some ⟨j.mb, 0, none⟩), .int .i64 n] w (RAddPost j P s n w) := by
  by_cases hb : (n : Int) ∈ mqAll P s
  · exact rmq_add_in h hI.ok hP h1 hn hb
  · exact rmq_add_new h hI hP h1 hn hb
end
section
set_option maxHeartbeats 4000000
set_option maxRecDepth 100000
variable {c : CfgA} {hv lv dv : Value} {tier : Int} {w : World} {cb n : Nat} {j : RmqJ} {P : MqP} {s : MqS}
theorem rdo_mq_add (hb : Box w cb 154 (rcC c hv tier lv (.pointer (some ⟨j.mb, 0, none⟩)) (.pointer none) dv)) (hcb : ¬ RF j cb) (h : RMq j P s w) (hok : MqOk P s) (hP : P.Ok) (hI : MqI P s) (h1 : s.now ≤ 1000000000) (hn64 : n < 64) :
    Calls Tryz.prog 162 #[.pointer (some ⟨cb, 0, none⟩), .agg #[.int .i64 1, .int .i64 n]] w (RmDo j P (mqAdd P s n).1 (mqAdd P s n).2.1 (mqAdd P s n).2.2 (decide ((n : Int) ∈ mqAll P s)) w) := by
  have HB := Lib.hid hb
  have HH := Lib.hid h
  have HK := Lib.hid hok
  have HP := Lib.hid hP
  have HD := Lib.hid (fun (W : World) (hr : RMq j P s W) => rmq_add hr hI hP h1 hn64)
  obtain ⟨was, hwas⟩ : ∃ was, was = decide ((n : Int) ∈ mqAll P s) := ⟨_, rfl⟩
  rw [← hwas]
  have HMB := Lib.hid hwas.symm
  clear hwas
  have HA0 := Lib.hid (Box.fresh w 255 #[.int .i64 1, .int .i64 n])
  have HO0 := Lib.hid ((Only.refl Non w).alloc (.cells #[.int .i64 1, .int .i64 n] 255))
  clear hb h hok hP hI h1 hn64
  go_enter Tryz.func162, Tryz.ntmps162
  go_upto_region 1 with fail
  change Code.wp _ _ _ _ ((w.alloc (.cells #[.int .i64 1, .int .i64 n] 255)).alloc (.cells (wzC 0 false false) 252))
  have hsz : (w.alloc (.cells #[.int .i64 1, .int .i64 n] 255)).heap.size = w.heap.size + 1 := World.size_alloc ..
  generalize w.alloc (.cells #[.int .i64 1, .int .i64 n] 255) = W0 at *
  obtain ⟨ab, hab⟩ : ∃ ab, ab = w.heap.size := ⟨_, rfl⟩
  rw [← hab] at HA0 hsz ⊢
  have HAB := Lib.hid (show w.heap.size ≤ ab from Nat.le_of_eq hab.symm)
  clear hab
  have ho1 : Only Non W0 (W0.alloc (.cells (wzC 0 false false) 252)) := (Only.refl Non W0).alloc _
  have HR1 := Lib.hid (Box.fresh W0 252 (wzC 0 false false))
  have HA1 := Lib.hid (ho1.box HA0.out id)
  have HO1 := Lib.hid (HO0.out.trans ho1)
  clear ho1 HA0 HO0
  generalize W0.alloc (.cells (wzC 0 false false) 252) = W1 at *
  rw [hsz] at HR1
  clear hsz
  have HRB := Lib.hid (show w.heap.size ≤ ab + 1 by have := HAB.out; omega)
  generalize ab + 1 = rb at *
  have HB1 := Lib.hid (HO1.out.box HB.out id)
  have x2 := rcC_m HB1.out
  have x3 := rcC_p HB1.out
  have y1 : W1.cell? ⟨ab, 1, none⟩ = some (.int .i64 n) := HA1.out.cellAt rfl
  have HHS := Lib.hid (rhas16 (b := (n : Int)) (rall_mq HB1.out (HH.out.keep HO1.out) HK.out HP.out))
  rw [HMB.out] at HHS
  go_upto_region 8 with (go_at_call 29; refine HHS.out.mono ?_; rintro e Wm ⟨rfl, hm⟩; have HNm := Lib.hid hm; clear hm)
  change Code.wp _ _ _ _ (Wm.alloc (.cells (wzC 0 false was) 252))
  have ho2 : Only Non W1 (Wm.alloc (.cells (wzC 0 false was) 252)) := HNm.out.alloc _
  have HE3 := Lib.hid (Box.fresh Wm 252 (wzC 0 false was))
  have HR3 := Lib.hid (ho2.box HR1.out id)
  have HA3 := Lib.hid (ho2.box HA1.out id)
  have HB3 := Lib.hid (ho2.box HB1.out id)
  have HO3 := Lib.hid (HO1.out.trans ho2)
  have HBE := Lib.hid (show rb ≠ Wm.heap.size from Nat.ne_of_lt (HNm.out.box HR1.out id).lt)
  have HEB := Lib.hid (show w.heap.size ≤ Wm.heap.size from (HO1.out.trans HNm.out).size)
  clear ho2 HHS HR1 HA1 HB1 HO1 HNm x2 x3 y1
  generalize Wm.alloc (.cells (wzC 0 false was) 252) = W3 at *
  generalize Wm.heap.size = eb at *
  have HNC := Lib.hid (show ¬ RF j cb ∧ ¬ RF j ab ∧ ¬ RF j rb ∧ ¬ RF j eb from ⟨hcb, HH.out.notRF HAB.out, HH.out.notRF HRB.out, HH.out.notRF HEB.out⟩)
  have HD := Lib.hid (fun (W : World) (ho : Only Non W3 W) => HD.out W (HH.out.keep (HO3.out.trans ho)))
  have y0 : W3.cell? ⟨ab, 0, none⟩ = some (.int .i64 1) := HA3.out.cellAt rfl
  go_upto_region 11 with fail
  have k1 : W3.drew.cell? ⟨cb, 19, none⟩ = some (.pointer (some ⟨j.mb, 0, none⟩)) := rcC_m HB3.out
  have k2 : W3.drew.cell? ⟨ab, 1, none⟩ = some (.int .i64 n) := HA3.out.cellAt rfl
  refine wp_region_tail (S := (fun w' : World => w'.cell? ⟨cb, 19, none⟩ = some (.pointer (some ⟨j.mb, 0, none⟩)) ∧ w'.cell? ⟨ab, 1, none⟩ = some (.int .i64 n))) 8 (by kernel_rfl) (by kernel_rfl) ?_ ?_
  · exact ⟨by first | exact hSS.1 | exact k1 | exact ((Only.refl Non _).alloc _).cell k1 id | exact ((Only.refl Non _).alloc _).cell hSS.1 id | assumption, by first | exact hSS.2 | exact k2 | exact ((Only.refl Non _).alloc _).cell k2 id | exact ((Only.refl Non _).alloc _).cell hSS.2 id | assumption⟩
  intro hSS
  refine wpHd_take (i := 0) (v := ?_) (by kernel_rfl) rfl (by kernel_rfl) (fun _ _ _ h => h) (.inl ⟨by rfl, ?_⟩) hSS ?_
  rotate_left
  · intro w hSw; (try dsimp only at hSw); go_simp; (try with_reducible rfl)
  refine wpHd_take (i := 1) (v := ?_) (by kernel_rfl) rfl (by kernel_rfl) (fun _ _ _ h => h) (.inl ⟨by rfl, ?_⟩) hSS ?_
  rotate_left
  · intro w hSw; (try dsimp only at hSw); go_simp; (try with_reducible rfl)
  refine wpHd_take (i := 2) (v := ?_) (by kernel_rfl) rfl (by kernel_rfl) (fun _ _ _ h => h) (.inl ⟨by rfl, ?_⟩) hSS ?_
  rotate_left
  · intro w hSw; (try dsimp only at hSw); go_simp; (try with_reducible rfl)
  refine wpHd_take (i := 3) (v := ?_) (by kernel_rfl) rfl (by kernel_rfl) (fun _ _ _ h => h) (.inl ⟨by rfl, ?_⟩) hSS ?_
  rotate_left
  · intro w hSw; (try dsimp only at hSw); go_simp; (try with_reducible rfl)
  refine wpHd_take (i := 4) (v := ?_) (by kernel_rfl) rfl (by kernel_rfl) (fun _ _ _ h => h) (.inl ⟨by rfl, ?_⟩) hSS ?_
  rotate_left
  · intro w hSw; (try dsimp only at hSw); go_simp; (try with_reducible rfl)
  try simp only [Act.put, List.getElem_toArray, List.getElem_cons_succ, List.getElem_cons_zero, List.setIfInBounds_toArray, List.set_cons_zero, List.set_cons_succ]
  refine wpHd_take (i := 5) (v := ?_) (by kernel_rfl) rfl (by kernel_rfl) (fun _ _ _ h => h) (.inl ⟨by rfl, ?_⟩) hSS ?_
  rotate_left
  · intro w hSw; (try dsimp only at hSw); go_simp; (try with_reducible rfl)
  try simp only [Act.put, List.getElem_toArray, List.getElem_cons_succ, List.getElem_cons_zero, List.setIfInBounds_toArray, List.set_cons_zero, List.set_cons_succ]
  refine wpHd_two (i := 6) (j := 7) rfl rfl (by kernel_rfl) (fun Kc hK => ?_) (fun Kc hK => ?_)
  · go_simp
    refine (HD.out W3.drew ((Only.refl Non W3).drew)).mono ?_
    rintro e W4 ⟨rfl, h1, h2⟩
    have HR4 := Lib.hid h1
    have HO4 := Lib.hid h2
    have k1 := h2.cell hSS.1 HNC.out.1
    have k2 := h2.cell hSS.2 HNC.out.2.1
    clear h1 h2
    refine hK.out _ _ ?_ (fun hSS => ?_)
    · exact ⟨by first | exact hSS.1 | exact k1 | exact ((Only.refl Non _).alloc _).cell k1 id | exact ((Only.refl Non _).alloc _).cell hSS.1 id | assumption, by first | exact hSS.2 | exact k2 | exact ((Only.refl Non _).alloc _).cell k2 id | exact ((Only.refl Non _).alloc _).cell hSS.2 id | assumption⟩
    clear hK
    try simp only [Act.put, List.getElem_toArray, List.getElem_cons_succ, List.getElem_cons_zero, List.setIfInBounds_toArray, List.set_cons_zero, List.set_cons_succ]
    refine wpHd_one (i := 7) rfl (by kernel_rfl) (fun Kc hK => ?_)
    go_simp
    refine hK.out _ _ ?_ (fun hSS => ?_)
    · exact ⟨by first | exact hSS.1 | exact k1 | exact ((Only.refl Non _).alloc _).cell k1 id | exact ((Only.refl Non _).alloc _).cell hSS.1 id | assumption, by first | exact hSS.2 | exact k2 | exact ((Only.refl Non _).alloc _).cell k2 id | exact ((Only.refl Non _).alloc _).cell hSS.2 id | assumption⟩
    clear hK
    try simp only [Act.put, List.getElem_toArray, List.getElem_cons_succ, List.getElem_cons_zero, List.setIfInBounds_toArray, List.set_cons_zero, List.set_cons_succ]
    refine wpHd_end (by kernel_rfl) ?_
    have hal : Only Non W4 (W4.alloc (.cells (wnC 0 false 0) 324)) := (Only.refl Non W4).alloc _
    have HOx := Lib.hid (show Only (RF j) W3 (W4.alloc (.cells (wnC 0 false 0) 324)) from ((Only.refl (RF j) W3).drew.trans HO4.out).transN hal)
    have HT5 := Lib.hid (Box.fresh W4 324 (wnC 0 false 0))
    have HR5 := Lib.hid (HR4.out.keep hal)
    have HTB := Lib.hid (show w.heap.size ≤ W4.heap.size from Nat.le_trans HO3.out.size ((Only.refl (RF j) W3).drew.trans HO4.out).size)
    clear hSS k1 k2 hal HR4 HO4
    change wpList _ _ _ _ _ (W4.alloc (.cells (wnC 0 false 0) 324))
    generalize W4.alloc (.cells (wnC 0 false 0) 324) = W5 at *
    generalize W4.heap.size = tb at *
    have HE5 := Lib.hid (HOx.out.box HE3.out HNC.out.2.2.2)
    have HB5 := Lib.hid (HOx.out.box HR3.out HNC.out.2.2.1)
    have HA5 := Lib.hid (HOx.out.box HA3.out HNC.out.2.1)
    have HO5 := Lib.hid ((HO3.out.mono fun _ hb => hb.elim).trans HOx.out)
    generalize hvv : (mqAdd P s n).2.1 = v at *
    generalize hgg : (mqAdd P s n).2.2 = g at *
    generalize hss : (mqAdd P s n).1 = s2 at *
    refine wpList_store_row rfl 324 _ _ rfl tb (wnC v g 0) rfl rfl 324 _ HT5.out (by kernel_rfl) rfl (wnC_one _ _ _) ?_
    go_upto_region 12 with fail
    have hst : Only (Just tb) W5 (W5.setRow tb (wnC v g 0)) := (Only.refl (Just tb) W5).setRow' (.inl rfl) _
    have HT6 := Lib.hid (HT5.out.setRow' (wnC v g 0))
    have HE6 := Lib.hid (hst.box HE5.out (HE5.out.off HT5.out (by decide)))
    have HB6 := Lib.hid (hst.box HB5.out (HB5.out.off HT5.out (by decide)))
    have HA6 := Lib.hid (hst.box HA5.out (HA5.out.off HT5.out (by decide)))
    have HR6 := Lib.hid (HR5.out.offU HT5.out (by decide) (by decide) (by decide) hst)
    have HO6 := Lib.hid (HO5.out.setRow' (.inr HTB.out) (wnC v g 0))
    have HRE := Lib.hid (show rb ≠ eb from HBE.out)
    change Code.wp _ _ _ _ (W5.setRow tb (wnC v g 0))
    clear hst HT5 HE5 HB5 HA5 HR5 HO5 HOx
    generalize W5.setRow tb (wnC v g 0) = W6 at *
    have z7 : W6.cell? ⟨tb, 0, none⟩ = some (.int .i64 v) := HT6.out.cellAt rfl
    have e7 : W6.cell? ⟨eb, 1, none⟩ = some (.int .i64 0) := HE6.out.cellAt rfl
    have f7 : W6.frozen? ⟨eb, 1, none⟩ = false := HE6.out.free 1
    go_upto_region 13 with fail
    have hst : Only (Just eb) W6 (W6.setCell ⟨eb, 1, none⟩ (.int .i64 v)) := (Only.refl (Just eb) W6).setCell (p := ⟨eb, 1, none⟩) (.inl (show Just eb eb from rfl)) _
    have HT7 := Lib.hid (hst.box HT6.out (HT6.out.off HE6.out (by decide)))
    have HE7 := Lib.hid (show Box _ eb 252 (wzC v false was) from HE6.out.store 1 (.int .i64 v))
    have HB7 := Lib.hid (hst.box HB6.out HRE.out)
    have HA7 := Lib.hid (hst.box HA6.out (HA6.out.off HE6.out (by decide)))
    have HR7 := Lib.hid (HR6.out.offU HE6.out (by decide) (by decide) (by decide) hst)
    have HO7 := Lib.hid (HO6.out.setCell (p := ⟨eb, 1, none⟩) (.inr HEB.out) (.int .i64 v))
    change Code.wp _ _ _ _ (W6.setCell ⟨eb, 1, none⟩ (.int .i64 v))
    clear hst HT6 HE6 HB6 HA6 HR6 HO6 z7 e7 f7
    generalize W6.setCell ⟨eb, 1, none⟩ (.int .i64 v) = W7 at *
    have z8 : W7.cell? ⟨tb, 1, none⟩ = some (.bool g) := HT7.out.cellAt rfl
    have e8 : W7.cell? ⟨eb, 2, none⟩ = some (.bool false) := HE7.out.cellAt rfl
    have f8 : W7.frozen? ⟨eb, 2, none⟩ = false := HE7.out.free 2
    go_upto_region 14 with fail
    have hst : Only (Just eb) W7 (W7.setCell ⟨eb, 2, none⟩ (.bool g)) := (Only.refl (Just eb) W7).setCell (p := ⟨eb, 2, none⟩) (.inl (show Just eb eb from rfl)) _
    have HT8 := Lib.hid (hst.box HT7.out (HT7.out.off HE7.out (by decide)))
    have HE8 := Lib.hid (show Box _ eb 252 (wzC v g was) from HE7.out.store 2 (.bool g))
    have HB8 := Lib.hid (hst.box HB7.out HRE.out)
    have HA8 := Lib.hid (hst.box HA7.out (HA7.out.off HE7.out (by decide)))
    have HR8 := Lib.hid (HR7.out.offU HE7.out (by decide) (by decide) (by decide) hst)
    have HO8 := Lib.hid (HO7.out.setCell (p := ⟨eb, 2, none⟩) (.inr HEB.out) (.bool g))
    change Code.wp _ _ _ _ (W7.setCell ⟨eb, 2, none⟩ (.bool g))
    clear hst HT7 HE7 HB7 HA7 HR7 HO7 z8 e8 f8
    generalize W7.setCell ⟨eb, 2, none⟩ (.bool g) = W8 at *
    have z9 : W8.cell? ⟨tb, 2, none⟩ = some (.int .i64 0) := HT8.out.cellAt rfl
    have e9 : W8.cell? ⟨eb, 4, none⟩ = some (.int .i64 0) := HE8.out.cellAt rfl
    have f9 : W8.frozen? ⟨eb, 4, none⟩ = false := HE8.out.free 4
    go_upto_region 15 with fail
    have hst : Only (Just eb) W8 (W8.setCell ⟨eb, 4, none⟩ (.int .i64 0)) := (Only.refl (Just eb) W8).setCell (p := ⟨eb, 4, none⟩) (.inl (show Just eb eb from rfl)) _
    have HT9 := Lib.hid (hst.box HT8.out (HT8.out.off HE8.out (by decide)))
    have HE9 := Lib.hid (show Box _ eb 252 (wzC v g was) from HE8.out.store 4 (.int .i64 0))
    have HB9 := Lib.hid (hst.box HB8.out HRE.out)
    have HA9 := Lib.hid (hst.box HA8.out (HA8.out.off HE8.out (by decide)))
    have HR9 := Lib.hid (HR8.out.offU HE8.out (by decide) (by decide) (by decide) hst)
    have HO9 := Lib.hid (HO8.out.setCell (p := ⟨eb, 4, none⟩) (.inr HEB.out) (.int .i64 0))
    change Code.wp _ _ _ _ (W8.setCell ⟨eb, 4, none⟩ (.int .i64 0))
    clear hst HT8 HE8 HB8 HA8 HR8 HO8 z9 e9 f9
    generalize W8.setCell ⟨eb, 4, none⟩ (.int .i64 0) = W9 at *
    have y0 : W9.cell? ⟨ab, 0, none⟩ = some (.int .i64 1) := HA9.out.cellAt rfl
    go_upto_region 17 with fail
    go_wp2_with (first | (refine wpList_load_row rfl 252 _ rfl eb rfl 252 (wzC v g was) (0, 0) _ HE9.out Tryz.underlying252 rfl (by kernel_rfl) ?_) | (refine wpList_store_row rfl 252 _ _ rfl rb (wzC v g was) rfl rfl 252 _ HB9.out (by kernel_rfl) rfl (wzC_one _ _ _) ?_))
    (try simp only [Exit.inBlock, Exit.then])
    refine bodyPost_ret (results_cell_row rfl _ _ rb _ (wzC v g was) (0, 0) _ rfl (HB9.out.setRow' _) Tryz.underlying252 rfl (by kernel_rfl)) rfl ?_
    have hos : Only (Just rb) W9 (W9.setRow rb (wzC v g was)) := (Only.refl (Just rb) W9).setRow' (.inl rfl) _
    exact ⟨rfl, HR9.out.offU HB9.out (by decide) (by decide) (by decide) hos, HO9.out.setRow' (.inr HRB.out) _⟩
  · go_simp
    refine hK.out _ _ ?_ (fun hSS => ?_)
    · exact ⟨by first | exact hSS.1 | exact k1 | exact ((Only.refl Non _).alloc _).cell k1 id | exact ((Only.refl Non _).alloc _).cell hSS.1 id | assumption, by first | exact hSS.2 | exact k2 | exact ((Only.refl Non _).alloc _).cell k2 id | exact ((Only.refl Non _).alloc _).cell hSS.2 id | assumption⟩
    clear hK
    try simp only [Act.put, List.getElem_toArray, List.getElem_cons_succ, List.getElem_cons_zero, List.setIfInBounds_toArray, List.set_cons_zero, List.set_cons_succ]
    refine wpHd_one (i := 6) rfl (by kernel_rfl) (fun Kc hK => ?_)
    go_simp
    refine (HD.out (W3.drew.alloc (.cells (wnC 0 false 0) 324)) (((Only.refl Non W3).drew).alloc _)).mono ?_
    rintro e W4 ⟨rfl, h1, h2⟩
    have HR4 := Lib.hid h1
    have HO4 := Lib.hid h2
    have k1 := h2.cell hSS.1 HNC.out.1
    have k2 := h2.cell hSS.2 HNC.out.2.1
    clear h1 h2
    refine hK.out _ _ ?_ (fun hSS => ?_)
    · exact ⟨by first | exact hSS.1 | exact k1 | exact ((Only.refl Non _).alloc _).cell k1 id | exact ((Only.refl Non _).alloc _).cell hSS.1 id | assumption, by first | exact hSS.2 | exact k2 | exact ((Only.refl Non _).alloc _).cell k2 id | exact ((Only.refl Non _).alloc _).cell hSS.2 id | assumption⟩
    clear hK
    try simp only [Act.put, List.getElem_toArray, List.getElem_cons_succ, List.getElem_cons_zero, List.setIfInBounds_toArray, List.set_cons_zero, List.set_cons_succ]
    refine wpHd_end (by kernel_rfl) ?_
    have hal : Only Non W3 (W3.drew.alloc (.cells (wnC 0 false 0) 324)) := ((Only.refl Non W3).drew).alloc _
    have HOx := Lib.hid (show Only (RF j) W3 W4 from (((Only.refl (RF j) W3).drew).alloc _).trans HO4.out)
    have HTB := Lib.hid (show w.heap.size ≤ W3.heap.size from HO3.out.size)
    have HT5 := Lib.hid (show Box W4 W3.heap.size 324 (wnC 0 false 0) from HO4.out.box (Box.fresh W3.drew 324 (wnC 0 false 0)) (HH.out.notRF HTB.out))
    have HR5 := Lib.hid HR4.out
    clear hSS k1 k2 hal HR4 HO4
    generalize W4 = W5 at *
    generalize W3.heap.size = tb at *
    have HE5 := Lib.hid (HOx.out.box HE3.out HNC.out.2.2.2)
    have HB5 := Lib.hid (HOx.out.box HR3.out HNC.out.2.2.1)
    have HA5 := Lib.hid (HOx.out.box HA3.out HNC.out.2.1)
    have HO5 := Lib.hid ((HO3.out.mono fun _ hb => hb.elim).trans HOx.out)
    generalize hvv : (mqAdd P s n).2.1 = v at *
    generalize hgg : (mqAdd P s n).2.2 = g at *
    generalize hss : (mqAdd P s n).1 = s2 at *
    refine wpList_store_row rfl 324 _ _ rfl tb (wnC v g 0) rfl rfl 324 _ HT5.out (by kernel_rfl) rfl (wnC_one _ _ _) ?_
    go_upto_region 12 with fail
    have hst : Only (Just tb) W5 (W5.setRow tb (wnC v g 0)) := (Only.refl (Just tb) W5).setRow' (.inl rfl) _
    have HT6 := Lib.hid (HT5.out.setRow' (wnC v g 0))
    have HE6 := Lib.hid (hst.box HE5.out (HE5.out.off HT5.out (by decide)))
    have HB6 := Lib.hid (hst.box HB5.out (HB5.out.off HT5.out (by decide)))
    have HA6 := Lib.hid (hst.box HA5.out (HA5.out.off HT5.out (by decide)))
    have HR6 := Lib.hid (HR5.out.offU HT5.out (by decide) (by decide) (by decide) hst)
    have HO6 := Lib.hid (HO5.out.setRow' (.inr HTB.out) (wnC v g 0))
    have HRE := Lib.hid (show rb ≠ eb from HBE.out)
    change Code.wp _ _ _ _ (W5.setRow tb (wnC v g 0))
    clear hst HT5 HE5 HB5 HA5 HR5 HO5 HOx
    generalize W5.setRow tb (wnC v g 0) = W6 at *
    have z7 : W6.cell? ⟨tb, 0, none⟩ = some (.int .i64 v) := HT6.out.cellAt rfl
    have e7 : W6.cell? ⟨eb, 1, none⟩ = some (.int .i64 0) := HE6.out.cellAt rfl
    have f7 : W6.frozen? ⟨eb, 1, none⟩ = false := HE6.out.free 1
    go_upto_region 13 with fail
    have hst : Only (Just eb) W6 (W6.setCell ⟨eb, 1, none⟩ (.int .i64 v)) := (Only.refl (Just eb) W6).setCell (p := ⟨eb, 1, none⟩) (.inl (show Just eb eb from rfl)) _
    have HT7 := Lib.hid (hst.box HT6.out (HT6.out.off HE6.out (by decide)))
    have HE7 := Lib.hid (show Box _ eb 252 (wzC v false was) from HE6.out.store 1 (.int .i64 v))
    have HB7 := Lib.hid (hst.box HB6.out HRE.out)
    have HA7 := Lib.hid (hst.box HA6.out (HA6.out.off HE6.out (by decide)))
    have HR7 := Lib.hid (HR6.out.offU HE6.out (by decide) (by decide) (by decide) hst)
    have HO7 := Lib.hid (HO6.out.setCell (p := ⟨eb, 1, none⟩) (.inr HEB.out) (.int .i64 v))
    change Code.wp _ _ _ _ (W6.setCell ⟨eb, 1, none⟩ (.int .i64 v))
    clear hst HT6 HE6 HB6 HA6 HR6 HO6 z7 e7 f7
    generalize W6.setCell ⟨eb, 1, none⟩ (.int .i64 v) = W7 at *
    have z8 : W7.cell? ⟨tb, 1, none⟩ = some (.bool g) := HT7.out.cellAt rfl
    have e8 : W7.cell? ⟨eb, 2, none⟩ = some (.bool false) := HE7.out.cellAt rfl
    have f8 : W7.frozen? ⟨eb, 2, none⟩ = false := HE7.out.free 2
    go_upto_region 14 with fail
    have hst : Only (Just eb) W7 (W7.setCell ⟨eb, 2, none⟩ (.bool g)) := (Only.refl (Just eb) W7).setCell (p := ⟨eb, 2, none⟩) (.inl (show Just eb eb from rfl)) _
    have HT8 := Lib.hid (hst.box HT7.out (HT7.out.off HE7.out (by decide)))
    have HE8 := Lib.hid (show Box _ eb 252 (wzC v g was) from HE7.out.store 2 (.bool g))
    have HB8 := Lib.hid (hst.box HB7.out HRE.out)
    have HA8 := Lib.hid (hst.box HA7.out (HA7.out.off HE7.out (by decide)))
    have HR8 := Lib.hid (HR7.out.offU HE7.out (by decide) (by decide) (by decide) hst)
    have HO8 := Lib.hid (HO7.out.setCell (p := ⟨eb, 2, none⟩) (.inr HEB.out) (.bool g))
    change Code.wp _ _ _ _ (W7.setCell ⟨eb, 2, none⟩ (.bool g))
    clear hst HT7 HE7 HB7 HA7 HR7 HO7 z8 e8 f8
    generalize W7.setCell ⟨eb, 2, none⟩ (.bool g) = W8 at *
    have z9 : W8.cell? ⟨tb, 2, none⟩ = some (.int .i64 0) := HT8.out.cellAt rfl
    have e9 : W8.cell? ⟨eb, 4, none⟩ = some (.int .i64 0) := HE8.out.cellAt rfl
    have f9 : W8.frozen? ⟨eb, 4, none⟩ = false := HE8.out.free 4
    go_upto_region 15 with fail
    have hst : Only (Just eb) W8 (W8.setCell ⟨eb, 4, none⟩ (.int .i64 0)) := (Only.refl (Just eb) W8).setCell (p := ⟨eb, 4, none⟩) (.inl (show Just eb eb from rfl)) _
    have HT9 := Lib.hid (hst.box HT8.out (HT8.out.off HE8.out (by decide)))
    have HE9 := Lib.hid (show Box _ eb 252 (wzC v g was) from HE8.out.store 4 (.int .i64 0))
    have HB9 := Lib.hid (hst.box HB8.out HRE.out)
    have HA9 := Lib.hid (hst.box HA8.out (HA8.out.off HE8.out (by decide)))
    have HR9 := Lib.hid (HR8.out.offU HE8.out (by decide) (by decide) (by decide) hst)
    have HO9 := Lib.hid (HO8.out.setCell (p := ⟨eb, 4, none⟩) (.inr HEB.out) (.int .i64 0))
    change Code.wp _ _ _ _ (W8.setCell ⟨eb, 4, none⟩ (.int .i64 0))
    clear hst HT8 HE8 HB8 HA8 HR8 HO8 z9 e9 f9
    generalize W8.setCell ⟨eb, 4, none⟩ (.int .i64 0) = W9 at *
    have y0 : W9.cell? ⟨ab, 0, none⟩ = some (.int .i64 1) := HA9.out.cellAt rfl
    go_upto_region 17 with fail
    go_wp2_with (first | (refine wpList_load_row rfl 252 _ rfl eb rfl 252 (wzC v g was) (0, 0) _ HE9.out Tryz.underlying252 rfl (by kernel_rfl) ?_) | (refine wpList_store_row rfl 252 _ _ rfl rb (wzC v g was) rfl rfl 252 _ HB9.out (by kernel_rfl) rfl (wzC_one _ _ _) ?_))
    (try simp only [Exit.inBlock, Exit.then])
    refine bodyPost_ret (results_cell_row rfl _ _ rb _ (wzC v g was) (0, 0) _ rfl (HB9.out.setRow' _) Tryz.underlying252 rfl (by kernel_rfl)) rfl ?_
    have hos : Only (Just rb) W9 (W9.setRow rb (wzC v g was)) := (Only.refl (Just rb) W9).setRow' (.inl rfl) _
    exact ⟨rfl, HR9.out.offU HB9.out (by decide) (by decide) (by decide) hos, HO9.out.setRow' (.inr HRB.out) _⟩
end
def RoF (F : Nat → Prop) (cb : Nat) : Nat → Prop := fun k => F k ∨ k = cb
def RoDo {σ : Type} (R : σ → Value → World → Prop) (F : Nat → Prop) (c : CfgA) (hv : Value) (tier : Int) (mp pp dv : Value) (cb : Nat) (s' : σ) (v : Int) (g was : Bool) (w : World) (e : Ending) (w' : World) : Prop :=
  ∃ A n m lv', e = .returned (.agg (dwC (.slice A n m) v g was 0)) ∧ R s' lv' w' ∧ Box w' cb 154 (rcC c hv tier lv' mp pp dv) ∧ Only (RoF F cb) w w'
structure RefO (K : OKind) (c : CfgA) (k : Nat) where
  mp : Value
  pp : Value
  F : Nat → Prop
  B : Nat
  R : K.σ → Value → World → Prop
  Inv : K.σ → Prop
  inv : ∀ {i s w}, K.R i s w → Inv s
  lt : ∀ {s lv w}, R s lv w → B ≤ w.heap.size ∧ ∀ k, F k → k < B
  slc : ∀ {s lv w}, R s lv w → ∃ A n m, lv = .slice A n m
  offX : ∀ {s lv w w'} {S : Nat → Prop}, R s lv w → Only S w w' → (∀ k, F k → ¬ S k) → (∀ k cs, S k → B ≤ k → ¬ Box w k 3 cs) → R s lv w'
  all : ∀ {s lv w cb hv dv}, R s lv w → Inv s → Box w cb 154 (rcC c hv ((k + 1 : Nat) : Int) lv mp pp dv) → Calls Tryz.prog 26 #[.pointer (some ⟨cb, 0, none⟩)] w (RAllP B (K.sp.all s) w)
  use : ∀ {s lv w cb hv dv b}, R s lv w → Inv s → Box w cb 154 (rcC c hv ((k + 1 : Nat) : Int) lv mp pp dv) → ¬ F cb → b ∈ K.sp.all s → K.sp.age s < maxAge →
    Calls Tryz.prog 162 #[.pointer (some ⟨cb, 0, none⟩), .agg #[.int .i64 0, .int .i64 b]] w (RoDo R F c hv ((k + 1 : Nat) : Int) mp pp dv cb (K.sp.use s b) 0 false true w)
  add : ∀ {s lv w cb hv dv b}, R s lv w → Inv s → Box w cb 154 (rcC c hv ((k + 1 : Nat) : Int) lv mp pp dv) → ¬ F cb → 0 ≤ b → b < 64 → K.sp.takes b → K.sp.age s < maxAge →
    Calls Tryz.prog 162 #[.pointer (some ⟨cb, 0, none⟩), .agg #[.int .i64 1, .int .i64 b]] w (RoDo R F c hv ((k + 1 : Nat) : Int) mp pp dv cb (K.sp.add s b).1 (K.sp.add s b).2.1 (K.sp.add s b).2.2 (decide (b ∈ K.sp.all s)) w)
  rem : ∀ {s lv w cb hv dv b}, R s lv w → Inv s → Box w cb 154 (rcC c hv ((k + 1 : Nat) : Int) lv mp pp dv) → ¬ F cb → b ∈ K.sp.all s →
    Calls Tryz.prog 162 #[.pointer (some ⟨cb, 0, none⟩), .agg #[.int .i64 2, .int .i64 b]] w (RoDo R F c hv ((k + 1 : Nat) : Int) mp pp dv cb (K.sp.rem s b) 0 false true w)
  takes : ∀ {s lv w cb hv dv} (b level : Int), R s lv w → Inv s → Box w cb 154 (rcC c hv ((k + 1 : Nat) : Int) lv mp pp dv) →
    Calls Tryz.prog 31 #[.pointer (some ⟨cb, 0, none⟩), .int .i64 b, .int .i64 level] w fun e w' => e = .returned (.bool (takesB c k b level)) ∧ Only Non w w'
section
set_option maxHeartbeats 4000000
set_option maxRecDepth 100000
variable {c : CfgA} {hv lv mp dv : Value} {w : World} {cb k : Nat}
theorem rtakes_plain (b level : Int) (hb : Box w cb 154 (rcC c hv ((k + 1 : Nat) : Int) lv mp (.pointer none) dv)) (hp : c.f 5 ≠ 2) :
    Calls Tryz.prog 31 #[.pointer (some ⟨cb, 0, none⟩), .int .i64 b, .int .i64 level] w fun e w' => e = .returned (.bool (takesB c k b level)) ∧ Only Non w w' := by
  have x2 : w.cell? ⟨cb, 2, none⟩ = some (.int .i64 (c.f 2)) := rcC_f hb (by decide)
  have x5 : w.cell? ⟨cb, 5, none⟩ = some (.int .i64 (c.f 5)) := rcC_f hb (by decide)
  have x17 := rcC_t hb
  have x20 := rcC_p hb
  unfold takesB
  rw [if_neg hp]
  clear hb hp
  generalize c.f 2 = n at *
  generalize c.f 5 = pl at *
  generalize ((k + 1 : Nat) : Int) = tr at *
  by_cases h1 : 0 ≤ b
  · have hb1 : decide (0 ≤ b) = true := by simp [h1]
    by_cases h2 : b < n
    · have hb2 : decide (b < n) = true := by simp [h2]
      rw [hb1, hb2]
      clear hb1 hb2
      by_cases h3 : pl = 1
      · by_cases h4 : level = tr
        · rw [show (true && true && (decide (pl ≠ 1) || decide (level = tr))) = true by simp [h4]]
          go_enter Tryz.func31, Tryz.ntmps31
          go_wp2
          go_ret
          exact ⟨by simp, Only.refl _ _⟩
        · rw [show (true && true && (decide (pl ≠ 1) || decide (level = tr))) = false by simp [h3, h4]]
          have h4' : (level == tr) = false := by simpa using h4
          go_enter Tryz.func31, Tryz.ntmps31
          go_wp2
          go_ret
          exact ⟨by simp [h4], Only.refl _ _⟩
      · rw [show (true && true && (decide (pl ≠ 1) || decide (level = tr))) = true by simp [h3]]
        go_enter Tryz.func31, Tryz.ntmps31
        go_wp2
        go_ret
        exact ⟨rfl, Only.refl _ _⟩
    · have hb2 : decide (b < n) = false := by simp [h2]
      rw [hb1, hb2]
      clear hb1 hb2
      go_enter Tryz.func31, Tryz.ntmps31
      go_wp2
      go_ret
      exact ⟨rfl, Only.refl _ _⟩
  · have hb1 : decide (0 ≤ b) = false := by simp [h1]
    rw [hb1]
    clear hb1
    go_enter Tryz.func31, Tryz.ntmps31
    go_wp2
    go_ret
    exact ⟨rfl, Only.refl _ _⟩
theorem rtakes_prt {j : RpJ} {S : Nat → List Int} (b level : Int) (hb : Box w cb 154 (rcC c hv ((k + 1 : Nat) : Int) lv mp (.pointer (some ⟨j.pb, 0, none⟩)) dv)) (h : Rpt j c.h (alcO c.h (capQ c)) S w) (hP : CfgP c) (hp : c.f 5 = 2) (hj : j.t = k) :
    Calls Tryz.prog 31 #[.pointer (some ⟨cb, 0, none⟩), .int .i64 b, .int .i64 level] w fun e w' => e = .returned (.bool (takesB c k b level)) ∧ Only Non w w' := by
  have x2 : w.cell? ⟨cb, 2, none⟩ = some (.int .i64 (c.f 2)) := rcC_f hb (by decide)
  have x5 : w.cell? ⟨cb, 5, none⟩ = some (.int .i64 (c.f 5)) := rcC_f hb (by decide)
  have x20 := rcC_p hb
  have hle := hP.p2
  unfold takesB
  rw [if_pos hp]
  rw [hp] at x5
  clear hb hp
  by_cases h1 : 0 ≤ b
  · have hb1 : decide (0 ≤ b) = true := by simp [h1]
    by_cases h2 : b < c.f 2
    · have hb2 : decide (b < c.f 2) = true := by simp [h2]
      have HP := Lib.hid (rpt_part (b := b) h hP.hs ⟨h1, by omega⟩)
      rw [hb1, hb2, ← hj]
      clear hb1 hb2 hj h hP hle
      generalize partV c.h (alcO c.h (capQ c)) b j.t = pv at *
      generalize c.f 2 = n at *
      go_enter Tryz.func31, Tryz.ntmps31
      go_wp2_with (go_at_call 102; refine HP.out.mono ?_; rintro e W1 ⟨rfl, m, rfl⟩)
      go_ret
      exact ⟨rfl, (Only.refl _ _).drewN _⟩
    · have hb2 : decide (b < c.f 2) = false := by simp [h2]
      rw [hb1, hb2]
      clear hb1 hb2 hj h hP hle
      generalize c.f 2 = n at *
      go_enter Tryz.func31, Tryz.ntmps31
      go_wp2
      go_ret
      exact ⟨rfl, Only.refl _ _⟩
  · have hb1 : decide (0 ≤ b) = false := by simp [h1]
    rw [hb1]
    clear hb1 hj h hP hle
    generalize c.f 2 = n at *
    go_enter Tryz.func31, Tryz.ntmps31
    go_wp2
    go_ret
    exact ⟨rfl, Only.refl _ _⟩
end
theorem OwnInts.offX {w w' : World} {base : Nat} {v : Value} {l : List Int} {S : Nat → Prop} (h : OwnInts 3 w base v l) (ho : Only S w w') (hS : ∀ k cs, S k → base ≤ k → ¬ Box w k 3 cs) : OwnInts 3 w' base v l :=
  h.only ho fun k hk e => by
    obtain ⟨c2, h2⟩ := h.boxOf hk
    exact hS k c2 e (h.lt k hk).1 h2
theorem RefO.off {K : OKind} {c : CfgA} {k : Nat} (o : RefO K c k) {s : K.σ} {lv : Value} {w w' : World} {S : Nat → Prop} (h : o.R s lv w) (ho : Only S w w') (hF : ∀ k, o.F k → ¬ S k) (hB : ∀ k, o.B ≤ k → k < w.heap.size → ¬ S k) : o.R s lv w' :=
  o.offX h ho hF fun k cs hk hB' hb => hB k hB' hb.lt hk
theorem RefO.offT {K : OKind} {c : CfgA} {k : Nat} (o : RefO K c k) {s : K.σ} {lv : Value} {w w' : World} {g : Nat} {t : TypeId} {cs : Array Value} (h : o.R s lv w) (hb : Box w g t cs) (ht : 3 ≠ t) (hF : ¬ o.F g) (ho : Only (Just g) w w') : o.R s lv w' :=
  o.offX h ho (fun k hk e => hF (show o.F g from (show k = g from e) ▸ hk)) fun k cs2 hk _ hb2 => by
    obtain rfl : k = g := hk
    exact ht (hb2.same hb).1
theorem RefO.keep {K : OKind} {c : CfgA} {k : Nat} (o : RefO K c k) {s : K.σ} {lv : Value} {w w' : World} (h : o.R s lv w) (ho : Only Non w w') : o.R s lv w' := o.off h ho (fun _ _ => id) fun _ _ _ => id
section
variable {c : CfgA} {k B cb : Nat} {L : List Int} {hv lv dv : Value} {w : World} {b : Int}
def LruR (B : Nat) (L : List Int) (lv : Value) (w : World) : Prop := OwnInts 3 w B lv L ∧ B ≤ w.heap.size
theorem ro_of_lru {L' : List Int} {v : Int} {g was : Bool} {kd : Int} (hk : k < 3) (hb : Box w cb 154 (rcC c hv ((k + 1 : Nat) : Int) lv (.pointer none) (.pointer none) dv)) (h : LruR B L lv w)
    (hD : ∀ w', Only Non w w' → Calls Tryz.prog 220 #[lv, .int .i64 (c.f (9 + k)), .agg #[.int .i64 kd, .int .i64 b]] w' (DoPost B L' v g was w')) :
    Calls Tryz.prog 162 #[.pointer (some ⟨cb, 0, none⟩), .agg #[.int .i64 kd, .int .i64 b]] w (RoDo (LruR B) (fun _ => False) c hv ((k + 1 : Nat) : Int) (.pointer none) (.pointer none) dv cb L' v g was w) :=
  (rdo_lru hk hb h.1 hD).mono fun e w' ⟨A, n, m, h1, h2, h3, h4⟩ => ⟨A, n, m, _, h1, ⟨h2, Nat.le_trans h.2 h4.size⟩, h3, h4.mono fun k hk => .inl (.inr hk)⟩
variable (hP : CfgP c) (hk : k < 3) (hb : Box w cb 154 (rcC c hv ((k + 1 : Nat) : Int) lv (.pointer none) (.pointer none) dv)) (h : LruR B L lv w) (hI : L.Nodup ∧ L.length ≤ (c.f (9 + k)).toNat)
include hP hk hb h hI
theorem lruo_use (hm : b ∈ L) :
    Calls Tryz.prog 162 #[.pointer (some ⟨cb, 0, none⟩), .agg #[.int .i64 0, .int .i64 b]] w (RoDo (LruR B) (fun _ => False) c hv ((k + 1 : Nat) : Int) (.pointer none) (.pointer none) dv cb (b :: L.erase b) 0 false true w) := by
  have h16 := hP.pc k hk
  refine ro_of_lru hk hb h fun w' ho => ?_
  have h5 := rlru_in0 (cap := (c.f (9 + k)).toNat) (h.1.only ho fun _ _ => id) (Nat.le_trans h.2 ho.size) (show L.length ≤ 64 by have := hI.2; omega) hm
  rw [show (((c.f (9 + k)).toNat : Nat) : Int) = c.f (9 + k) by omega, erase_filter hI.1] at h5
  exact h5
theorem lruo_rem (hm : b ∈ L) :
    Calls Tryz.prog 162 #[.pointer (some ⟨cb, 0, none⟩), .agg #[.int .i64 2, .int .i64 b]] w (RoDo (LruR B) (fun _ => False) c hv ((k + 1 : Nat) : Int) (.pointer none) (.pointer none) dv cb (L.erase b) 0 false true w) := by
  have h16 := hP.pc k hk
  refine ro_of_lru hk hb h fun w' ho => ?_
  have h5 := rlru_rem (b := b) (cap := (c.f (9 + k)).toNat) (h.1.only ho fun _ _ => id) (Nat.le_trans h.2 ho.size) (show L.length ≤ 64 by have := hI.2; omega)
  rw [show (((c.f (9 + k)).toNat : Nat) : Int) = c.f (9 + k) by omega, erase_filter hI.1, decide_eq_true hm] at h5
  exact h5
theorem lruo_add (h0 : 0 ≤ b) (h1 : b < 64) :
    Calls Tryz.prog 162 #[.pointer (some ⟨cb, 0, none⟩), .agg #[.int .i64 1, .int .i64 b]] w (RoDo (LruR B) (fun _ => False) c hv ((k + 1 : Nat) : Int) (.pointer none) (.pointer none) dv cb (lruAdd (c.f (9 + k)).toNat L b).1 (lruAdd (c.f (9 + k)).toNat L b).2.1 (lruAdd (c.f (9 + k)).toNat L b).2.2 (decide (b ∈ L)) w) := by
  have h16 := hP.pc k hk
  refine ro_of_lru hk hb h fun w' ho => ?_
  obtain ⟨n, rfl⟩ := Int.eq_ofNat_of_zero_le h0
  by_cases hm : (n : Int) ∈ L
  · have h5 := rlru_in1 (cap := (c.f (9 + k)).toNat) (h.1.only ho fun _ _ => id) (Nat.le_trans h.2 ho.size) (show L.length ≤ 64 by have := hI.2; omega) hm
    rw [show (((c.f (9 + k)).toNat : Nat) : Int) = c.f (9 + k) by omega, erase_filter hI.1] at h5
    rw [show lruAdd (c.f (9 + k)).toNat L n = ((n : Int) :: L.erase n, 0, false) by unfold lruAdd; rw [if_pos hm], decide_eq_true hm]
    exact h5
  · have h5 := rlru_add (cap := (c.f (9 + k)).toNat) (n := n) (h.1.only ho fun _ _ => id) (Nat.le_trans h.2 ho.size) (by have := hI.2; omega) hI.2 (by omega) (by omega) hI.1 (by omega) hm
    rw [show (((c.f (9 + k)).toNat : Nat) : Int) = c.f (9 + k) by omega] at h5
    rw [decide_eq_false hm]
    exact h5
end
noncomputable def roLru {c : CfgA} {k : Nat} (hk : k < 3) (hP : CfgP c) (hp : c.f 5 ≠ 2) (B : Nat) : RefO (lruK (c.f (9 + k)).toNat) c k where
  mp := .pointer none
  pp := .pointer none
  F := fun _ => False
  B := B
  R := LruR B
  Inv := fun (L : List Int) => L.Nodup ∧ L.length ≤ (c.f (9 + k)).toNat
  inv := fun h => ⟨h.1.sp.nodup 0, h.2⟩
  lt := fun h => ⟨h.2, fun _ h => h.elim⟩
  slc := fun h => by obtain ⟨A, m, e, _⟩ := h.1.shape; exact ⟨A, _, m, e⟩
  offX := fun h ho _ hB => ⟨h.1.offX ho hB, Nat.le_trans h.2 ho.size⟩
  all := fun h _ hb => rall_lru hb h.1
  use := fun h hI hb _ hm _ => lruo_use hP hk hb h hI hm
  add := fun h hI hb _ h0 h1 _ _ => lruo_add hP hk hb h hI h0 h1
  rem := fun h hI hb _ hm => lruo_rem hP hk hb h hI hm
  takes := fun b level _ _ hb => rtakes_plain b level hb hp
theorem RMqA.offX {j : RmqJ} {P : MqP} {gv : Value} {qv : Nat → Value} {s : MqS} {w w' : World} {S : Nat → Prop} (h : RMqA j P gv qv s w) (ho : Only S w w') (n1 : ∀ k, RF j k → ¬ S k) (hS : ∀ k cs, S k → j.B ≤ k → ¬ Box w k 3 cs) : RMqA j P gv qv s w' :=
  ⟨ho.box h.box (n1 _ (.inl rfl)), h.row.only ho fun k hk => by
    have e : j.qb = k := by injection hk
    exact n1 _ (.inr (.inl e.symm)), fun i hi => (h.q i hi).offX ho hS, h.g.offX ho hS, ho.box h.of (n1 _ (.inr (.inr (.inl rfl)))), ho.box h.ex (n1 _ (.inr (.inr (.inr rfl)))), h.lt, h.ne, Nat.le_trans h.bs ho.size⟩
theorem RMqA.ltB {j : RmqJ} {P : MqP} {gv : Value} {qv : Nat → Value} {s : MqS} {w : World} (h : RMqA j P gv qv s w) : ∀ k, RF j k → k < j.B := fun k hk => by
  have := h.lt
  rcases hk with rfl | rfl | rfl | rfl <;> omega
noncomputable def roMq {c : CfgA} {k : Nat} (hk : k < 3) (hP : CfgP c) (hp : c.f 5 ≠ 2) (j : RmqJ) : RefO (mqK (mqPc c k) (mqPc_ok hP hk)) c k where
  mp := .pointer (some ⟨j.mb, 0, none⟩)
  pp := .pointer none
  F := RF j
  B := j.B
  R := fun s lv w => lv = .slice none 0 0 ∧ RMq j (mqPc c k) s w
  Inv := MqI (mqPc c k)
  inv := fun h => h.2
  lt := fun h => by
    obtain ⟨_, gv, qv, h⟩ := h
    exact ⟨h.bs, h.ltB⟩
  slc := fun h => ⟨none, 0, 0, h.1⟩
  offX := fun h ho hF hB => by
    obtain ⟨h0, gv, qv, h⟩ := h
    exact ⟨h0, gv, qv, h.offX ho hF hB⟩
  all := fun {s lv w cb hv dv} h hI hb => by
    have hle : j.B ≤ w.heap.size := by obtain ⟨_, gv, qv, h⟩ := h; exact h.bs
    exact (rall_mq hb h.2 hI.ok (mqPc_ok hP hk)).mono fun e w' ⟨v, h1, h2, h3⟩ => ⟨v, h1, h2.low hle, h3⟩
  use := fun {s lv w cb hv dv b} h hI hb hcb hm hage => by
    have hm : b ∈ mqAll (mqPc c k) s := hm
    have hage : s.now.toNat < maxAge := hage
    unfold maxAge at hage
    obtain ⟨n, rfl⟩ := Int.eq_ofNat_of_zero_le (all_rng hI.ok hm).1
    obtain ⟨rfl, h⟩ := h
    exact (rdo_mq_use hb hcb h hI.ok (mqPc_ok hP hk) (by omega) hm).mono fun e w' ⟨h1, h2, h3⟩ => ⟨none, 0, 0, _, h1, ⟨rfl, h2⟩, h3.box hb hcb, h3.mono fun k hk => .inl (.inl hk)⟩
  add := fun {s lv w cb hv dv b} h hI hb hcb h0 h1 _ hage => by
    have hage : s.now.toNat < maxAge := hage
    unfold maxAge at hage
    obtain ⟨n, rfl⟩ := Int.eq_ofNat_of_zero_le h0
    obtain ⟨rfl, h⟩ := h
    exact (rdo_mq_add hb hcb h hI.ok (mqPc_ok hP hk) hI (by omega) (by omega)).mono fun e w' ⟨h1, h2, h3⟩ => ⟨none, 0, 0, _, h1, ⟨rfl, h2⟩, h3.box hb hcb, h3.mono fun k hk => .inl (.inl hk)⟩
  rem := fun {s lv w cb hv dv b} h hI hb hcb hm => by
    have hm : b ∈ mqAll (mqPc c k) s := hm
    obtain ⟨n, rfl⟩ := Int.eq_ofNat_of_zero_le (all_rng hI.ok hm).1
    obtain ⟨rfl, h⟩ := h
    exact (rdo_mq_rem hb hcb h hI.ok (mqPc_ok hP hk) hm).mono fun e w' ⟨h1, h2, h3⟩ => ⟨none, 0, 0, _, h1, ⟨rfl, h2⟩, h3.box hb hcb, h3.mono fun k hk => .inl (.inl hk)⟩
  takes := fun b level _ _ hb => rtakes_plain b level hb hp
theorem RptA.offX {j : RpJ} {l : List HintA} {O : Nat → Nat → Int} {qv : Nat → Value} {S : Nat → List Int} {w w' : World} {F : Nat → Prop} (h : RptA j l O qv S w) (ho : Only F w w') (n1 : ∀ k, RpF j l.length k → ¬ F k) (hS : ∀ k cs, F k → j.B ≤ k → ¬ Box w k 3 cs) : RptA j l O qv S w' :=
  ⟨ho.box h.box (n1 _ (.inl rfl)), h.row.only ho fun k hk => n1 k (.inr (.inl hk)), fun i hi => (h.q i hi).offX ho hS,
    h.hin.off ho fun h0 k o e => n1 k (.inr (.inr (.inr ⟨h0, o, e⟩))), ho.box h.prt (n1 _ (.inr (.inr (.inl rfl)))), h.t3, h.ltp, h.ltr, h.lto, h.lth, Nat.le_trans h.bs ho.size⟩
theorem PrtI1.len1 {l : List HintA} {O : Nat → Nat → Int} {t : Nat} {S : Nat → List Int} (h : PrtI1 l O t S) (r : Nat) : (S r).length ≤ 64 := by
  have h1 := nodup_sub2 (L' := (List.range 64).map Int.ofNat) (h.nodup r) fun x hx => by
    have := h.at_ hx
    exact List.mem_map.2 ⟨x.toNat, List.mem_range.2 (by omega), by show ((x.toNat : Nat) : Int) = x; omega⟩
  simpa using h1
theorem ro_of_prt {c : CfgA} {tier : Nat} {j : RpJ} {O : Nat → Nat → Int} {S S' : Nat → List Int} {hv lv dv : Value} {kd b v : Int} {g was : Bool} {w : World} {cb : Nat}
    (hl : lv = .slice none 0 0) (h : Rpt j c.h O S w) (hb : Box w cb 154 (rcC c hv tier lv (.pointer none) (.pointer (some ⟨j.pb, 0, none⟩)) dv)) (hcb : ¬ RpF j c.h.length cb)
    (hD : ∀ w', Rpt j c.h O S w' → Calls Tryz.prog 219 #[.pointer (some ⟨j.pb, 0, none⟩), .agg #[.int .i64 kd, .int .i64 b]] w' (RpDo j c.h O S' v g was w')) :
    Calls Tryz.prog 162 #[.pointer (some ⟨cb, 0, none⟩), .agg #[.int .i64 kd, .int .i64 b]] w
      (RoDo (fun S lv w => lv = .slice none 0 0 ∧ Rpt j c.h O S w) (RpF j c.h.length) c hv tier (.pointer none) (.pointer (some ⟨j.pb, 0, none⟩)) dv cb S' v g was w) := by
  obtain ⟨qv, hA⟩ := h
  subst hl
  have hn : ¬ ownB j.lv cb := fun e => hcb (.inr (.inl e))
  exact (rdo_prt hb hA.bs (fun k hk => ⟨hA.ltr k hk, fun e => hn (e ▸ hk)⟩) fun w' ho => hD w' ⟨qv, hA.keep ho⟩).mono fun e w' ⟨h1, h2, h3⟩ => ⟨none, 0, 0, _, h1, ⟨rfl, h2⟩, h3.box hb hn, h3.mono fun k hk => .inl (.inl (.inr (.inl hk)))⟩
noncomputable def roPrt {c : CfgA} {k : Nat} (hk : k < 3) (hP : CfgP c) (hp : c.f 5 = 2) (j : RpJ) (hj : j.t = k) : RefO (partKc c k) c k where
  mp := .pointer none
  pp := .pointer (some ⟨j.pb, 0, none⟩)
  F := RpF j c.h.length
  B := j.B
  R := fun S lv w => lv = .slice none 0 0 ∧ Rpt j c.h (alcO c.h (capQ c)) S w
  Inv := PrtI1 c.h (alcO c.h (capQ c)) k
  inv := fun h => h.i
  lt := fun h => by
    obtain ⟨_, qv, h⟩ := h
    exact ⟨h.bs, fun k hk => h.ltF hk⟩
  slc := fun h => ⟨none, 0, 0, h.1⟩
  offX := fun h ho hF hB => by
    obtain ⟨h0, qv, h⟩ := h
    exact ⟨h0, qv, h.offX ho hF hB⟩
  all := fun {s lv w cb hv dv} h hI hb => by
    have hle : j.B ≤ w.heap.size := by obtain ⟨_, qv, h⟩ := h; exact h.bs
    have hI : PrtI1 c.h (alcO c.h (capQ c)) j.t s := by rw [hj]; exact hI
    exact (rall_prt hb h.2 hI hP.hs).mono fun e w' ⟨v, h1, h2, h3⟩ => ⟨v, h1, h2.low hle, h3⟩
  use := fun {s lv w cb hv dv b} h hI hb hcb hm hage => by
    have hI : PrtI1 c.h (alcO c.h (capQ c)) j.t s := by rw [hj]; exact hI
    have hm : b ∈ s (rngI c.h b) := (hI.mem b).1 hm
    exact ro_of_prt h.1 h.2 hb hcb fun w' h' => rpt_in0 h' hI hP.hs (hI.at_ hm).2.2 hm (hI.len1 _)
  add := fun {s lv w cb hv dv b} h hI hb hcb h0 h1 ht hage => by
    have hI : PrtI1 c.h (alcO c.h (capQ c)) j.t s := by rw [hj]; exact hI
    have ht : 0 < partV c.h (alcO c.h (capQ c)) b j.t := by rw [hj]; exact ht
    refine ro_of_prt h.1 h.2 hb hcb fun w' h' => ?_
    show Calls _ _ _ _ (RpDo j c.h _ (prtAdd c.h (alcO c.h (capQ c)) k s b).1 (prtAdd c.h (alcO c.h (capQ c)) k s b).2.1 (prtAdd c.h (alcO c.h (capQ c)) k s b).2.2 (decide (b ∈ prtTo s c.h.length)) w')
    rw [← hj]
    by_cases hm : b ∈ s (rngI c.h b)
    · rw [decide_eq_true ((hI.mem b).2 hm)]
      have h5 := rpt_in1 h' hI hP.hs ⟨h0, h1⟩ hm ht (hI.len1 _)
      rw [show prtAdd c.h (alcO c.h (capQ c)) j.t s b = (frontS (remS s b) (rngI c.h b) b, 0, false) by unfold prtAdd; rw [if_pos hm]]
      exact h5
    · rw [decide_eq_false (fun e => hm ((hI.mem b).1 e))]
      by_cases hr : ((s (rngI c.h b)).length : Int) < partV c.h (alcO c.h (capQ c)) b j.t
      · exact rpt_add_room h' hI hP.hs ⟨h0, h1⟩ hm ht (hI.len1 _) hr
      · exact rpt_add_full h' hI hP.hs ⟨h0, h1⟩ hm ht (hI.len1 _) (by omega)
  rem := fun {s lv w cb hv dv b} h hI hb hcb hm => by
    have hI : PrtI1 c.h (alcO c.h (capQ c)) j.t s := by rw [hj]; exact hI
    have hm : b ∈ s (rngI c.h b) := (hI.mem b).1 hm
    exact ro_of_prt h.1 h.2 hb hcb fun w' h' => rpt_rem h' hI hP.hs (hI.at_ hm).2.2 hm (hI.len1 _)
  takes := fun b level h _ hb => rtakes_prt b level hb h.2 hP hp hj
def thereB (c : CfgA) (b : Int) : Bool := decide (0 ≤ b) && decide (b < c.f 2)
def putCode (c : CfgA) (k : Nat) (b : Int) (n : Nat) (level : Int) : Int := if thereB c b = false then 9 else if (n : Int) ≠ c.f 3 then 10 else if takesB c k b level = false then 5 else 0
theorem thereB_of {c : CfgA} {k : Nat} {b level : Int} (h : takesB c k b level = true) : thereB c b = true := by
  unfold takesB at h
  simp only [Bool.and_eq_true] at h
  unfold thereB
  simp [h.1]
theorem putCode_zero {c : CfgA} {k : Nat} {b : Int} {n : Nat} {level : Int} (h : putCode c k b n level = 0) : takesB c k b level = true ∧ (n : Int) = c.f 3 ∧ 0 ≤ b ∧ b < c.f 2 := by
  unfold putCode at h
  split at h
  · cases h
  · rename_i h1
    split at h
    · cases h
    · rename_i h2
      split at h
      · cases h
      · rename_i h3
        have h3 : takesB c k b level = true := by simpa using h3
        have h4 := thereB_of h3
        unfold thereB at h4
        simp only [Bool.and_eq_true, decide_eq_true_eq] at h4
        exact ⟨h3, by omega, h4.1, h4.2⟩
section
variable {c : CfgA} {k : Nat} {hP : CfgP c} {hk : k < 3} {i : (kOf c k hP hk).ι} {w : World} {cb mb : Nat} {hv : Value} {s : (kOf c k hP hk).σ} {D : Int → Option Blk} {b : Int} {dl : List Int} {dv : Value}
theorem put_refused (h : CchB (kOf c k hP hk) i w cb mb c hv (k + 1) s D) (hby : Byt w dv dl) (level : Int) (hc : putCode c k b dl.length level ≠ 0) :
    Calls Tryz.prog 81 #[.pointer (some ⟨cb, 0, none⟩), .agg #[.int .i64 b, dv], .int .i64 level] w fun e w' => e = .returned (.tuple #[.agg zF, .bool false, .int .i64 (putCode c k b dl.length level)]) ∧ Only Non w w' := by
  unfold putCode at *
  by_cases h1 : thereB c b = false
  · rw [if_pos h1] at *
    exact put_there h hby h1 level
  · rw [if_neg h1] at *
    have h1 : thereB c b = true := by simpa using h1
    by_cases h2 : (dl.length : Int) ≠ c.f 3
    · rw [if_pos h2] at *
      exact put_size h hby h1 h2 level
    · rw [if_neg h2] at *
      by_cases h3 : takesB c k b level = false
      · rw [if_pos h3] at *
        exact put_takes h hby h1 (by omega) level fun w' h' => by
          have := takes_any b level h'
          rw [h3] at this
          exact this
      · rw [if_neg h3] at hc
        exact absurd rfl hc
theorem put_done (h : CchB (kOf c k hP hk) i w cb mb c hv (k + 1) s D) (hby : Byt w dv dl) (hdv : ∀ j, ownB dv j → ¬ (kOf c k hP hk).F i j ∧ j ≠ mb) (level : Int) (hc : putCode c k b dl.length level = 0) (hage : (kOf c k hP hk).sp.age s < maxAge) :
    Calls Tryz.prog 81 #[.pointer (some ⟨cb, 0, none⟩), .agg #[.int .i64 b, dv], .int .i64 level] w (PutPost (kOf c k hP hk) i cb mb c hv (k + 1) s D b dl w) := by
  obtain ⟨h1, h2, h3, h4⟩ := putCode_zero hc
  exact cch_put h hby hdv h3 h4 h2 level (fun w' h' => by
    have := takes_any b level h'
    rw [h1] at this
    exact this) (takesB_sp h1) hage
theorem nodup_sub : ∀ {L L' : List Int}, L.Nodup → (∀ x ∈ L, x ∈ L') → L.length ≤ L'.length
  | [], L', _, _ => Nat.zero_le _
  | a :: L, L', hn, h => by
    rw [List.nodup_cons] at hn
    have ha := h a (List.mem_cons_self ..)
    have := nodup_sub (L' := L'.erase a) hn.2 fun x hx => (List.mem_erase_of_ne (fun (e : x = a) => hn.1 (e ▸ hx))).2 (h x (List.mem_cons_of_mem _ hx))
    rw [List.length_erase_of_mem ha] at this
    have := List.length_pos_of_mem ha
    rw [List.length_cons]
    omega
theorem gone_len {L L' : List Int} {b v : Int} (hn : L.Nodup) (hn' : L'.Nodup) (hv : v ∈ L) (hb : b ∉ L) (h : ∀ y, y ∈ L' ↔ y = b ∨ (y ∈ L ∧ y ≠ v)) : L'.length = L.length := by
  have e : (b :: L.erase v).length = L.length := by
    rw [List.length_cons, List.length_erase_of_mem hv]
    have := List.length_pos_of_mem hv
    omega
  have hn2 : (b :: L.erase v).Nodup := List.nodup_cons.2 ⟨fun h2 => hb (List.mem_of_mem_erase h2), hn.erase v⟩
  have h1 : L'.length ≤ (b :: L.erase v).length := nodup_sub hn' fun x hx => by
    rcases (h x).1 hx with rfl | ⟨h3, h4⟩
    · exact List.mem_cons_self ..
    · exact List.mem_cons_of_mem _ ((List.mem_erase_of_ne h4).2 h3)
  have h2 : (b :: L.erase v).length ≤ L'.length := nodup_sub hn2 fun x hx => by
    rcases List.mem_cons.1 hx with rfl | h3
    · exact (h _).2 (.inl rfl)
    · exact (h x).2 (.inr ⟨List.mem_of_mem_erase h3, fun e => by rw [e, hn.mem_erase_iff] at h3; exact h3.1 rfl⟩)
  omega
end
def RByt (w : World) (v : Value) (l : List Int) : Prop := Row 5 w v (bytes l) ∧ l.length ≤ 1000000
theorem byt_len (l : List Int) : (bytes l).length = l.length := List.length_map ..
theorem RByt.byt {w : World} {v : Value} {l : List Int} (h : RByt w v l) : Byt w v l := Row.byt h.1 (by have := h.2; omega)
theorem RByt.only {S : Nat → Prop} {w w' : World} {v : Value} {l : List Int} (h : RByt w v l) (ho : Only S w w') (hn : ∀ k, ownB v k → ¬ S k) : RByt w' v l := ⟨h.1.only ho hn, h.2⟩
theorem RByt.keep {w w' : World} {v : Value} {l : List Int} (h : RByt w v l) (ho : Only Non w w') : RByt w' v l := h.only ho fun _ _ => id
theorem RByt.shape {w : World} {v : Value} {l : List Int} (h : RByt w v l) : ∃ A c, v = .slice A l.length c := by
  obtain ⟨A, c, e, _⟩ := h.1.shape
  exact ⟨A, c, by rw [e]; simp⟩
theorem RByt.nil (w : World) : RByt w (.slice none 0 0) [] := ⟨Row.nil_ _ _, Nat.zero_le _⟩
structure RcI where
  cb : Nat
  db : Nat
  dc : Nat
  hv : Value
def RcW {K : OKind} {c : CfgA} {k : Nat} (o : RefO K c k) (i : RcI) : Nat → Prop := fun k => o.F k ∨ k = i.cb ∨ k = i.db
structure RchB {K : OKind} {c : CfgA} {k : Nat} (o : RefO K c k) (i : RcI) (s : K.σ) (lv : Value) (dv : Nat → Value) (Dr : Nat → List Int) (w : World) : Prop where
  ord : o.R s lv w
  box : Box w i.cb 154 (rcC c i.hv ((k + 1 : Nat) : Int) lv o.mp o.pp (.slice (some ⟨i.db, 0, none⟩) 32 i.dc))
  row : Row 36 w (.slice (some ⟨i.db, 0, none⟩) 32 i.dc) (qvL 32 dv)
  dat : ∀ b, b < 32 → RByt w (dv b) (Dr b) ∧ ∀ j, ownB (dv b) j → o.B ≤ j
  cbB : i.cb < o.B ∧ ¬ o.F i.cb
  dbB : i.db < o.B ∧ ¬ o.F i.db
  ne : i.cb ≠ i.db
  right : CfgP c
def Rch {K : OKind} {c : CfgA} {k : Nat} (o : RefO K c k) (i : RcI) (s : K.σ) (Dr : Nat → List Int) (w : World) : Prop := ∃ lv dv, RchB o i s lv dv Dr w
section
variable {K : OKind} {c : CfgA} {k : Nat} {o : RefO K c k} {i : RcI} {s : K.σ} {lv : Value} {dv : Nat → Value} {Dr : Nat → List Int} {w w' : World} {S : Nat → Prop}
theorem RchB.offX (h : RchB o i s lv dv Dr w) (ho : Only S w w') (hF : ∀ k, RcW o i k → ¬ S k) (hS : ∀ k cs, S k → o.B ≤ k → ¬ Box w k 3 cs ∧ ¬ Box w k 5 cs) : RchB o i s lv dv Dr w' where
  ord := o.offX h.ord ho (fun k hk => hF k (.inl hk)) fun k cs h1 h2 => (hS k cs h1 h2).1
  box := ho.box h.box (hF _ (.inr (.inl rfl)))
  row := h.row.only ho fun k hk => hF k (.inr (.inr (ownB_slice.1 hk).symm))
  dat := fun b hb => ⟨(h.dat b hb).1.only ho fun k hk e => by
    obtain ⟨cs, h2⟩ := (h.dat b hb).1.1.box hk
    exact (hS k cs e ((h.dat b hb).2 k hk)).2 h2, (h.dat b hb).2⟩
  cbB := h.cbB
  dbB := h.dbB
  ne := h.ne
  right := h.right
theorem RchB.keep (h : RchB o i s lv dv Dr w) (ho : Only Non w w') : RchB o i s lv dv Dr w' := h.offX ho (fun _ _ => id) fun _ _ h => h.elim
theorem RchB.bs (h : RchB o i s lv dv Dr w) : o.B ≤ w.heap.size := (o.lt h.ord).1
theorem RchB.ltW (h : RchB o i s lv dv Dr w) {j : Nat} (hj : RcW o i j) : j < o.B := by
  rcases hj with hj | rfl | rfl
  · exact (o.lt h.ord).2 j hj
  · exact h.cbB.1
  · exact h.dbB.1
theorem RchB.offT (h : RchB o i s lv dv Dr w) {g : Nat} {t : TypeId} {cs : Array Value} (hb : Box w g t cs) (h1 : 3 ≠ t) (h2 : 5 ≠ t) (hF : ¬ RcW o i g) (ho : Only (Just g) w w') : RchB o i s lv dv Dr w' :=
  h.offX ho (fun k hk e => hF (show RcW o i g from (show k = g from e) ▸ hk)) fun k cs2 hk _ => by
    obtain rfl : k = g := hk
    exact ⟨fun hb2 => h1 (hb2.same hb).1, fun hb2 => h2 (hb2.same hb).1⟩
theorem RchB.notW (h : RchB o i s lv dv Dr w) {g : Nat} (hg : w.heap.size ≤ g) : ¬ RcW o i g := fun e => by have := h.ltW e; have := h.bs; omega
theorem Rch.offX (h : Rch o i s Dr w) (ho : Only S w w') (hF : ∀ k, RcW o i k → ¬ S k) (hS : ∀ k cs, S k → o.B ≤ k → ¬ Box w k 3 cs ∧ ¬ Box w k 5 cs) : Rch o i s Dr w' := by
  obtain ⟨lv, dv, h⟩ := h
  exact ⟨lv, dv, h.offX ho hF hS⟩
theorem Rch.keep (h : Rch o i s Dr w) (ho : Only Non w w') : Rch o i s Dr w' := h.offX ho (fun _ _ => id) fun _ _ h => h.elim
theorem Rch.bs (h : Rch o i s Dr w) : o.B ≤ w.heap.size := by
  obtain ⟨lv, dv, h⟩ := h
  exact h.bs
theorem Rch.ltW (h : Rch o i s Dr w) {j : Nat} (hj : RcW o i j) : j < o.B := by
  obtain ⟨lv, dv, h⟩ := h
  exact h.ltW hj
theorem RchB.c21 (h : RchB o i s lv dv Dr w) : w.cell? ⟨i.cb, 21, none⟩ = some (.slice (some ⟨i.db, 0, none⟩) 32 i.dc) := rcC_d h.box
theorem RchB.cd (h : RchB o i s lv dv Dr w) {n : Nat} (hn : n < 32) : w.cell? ⟨i.db, n, none⟩ = some (dv n) ∧ w.frozen? ⟨i.db, n, none⟩ = false := by
  obtain ⟨g, cc, e, h1, h2⟩ := h.row.cell (qvL_at 32 dv hn)
  injection e with e
  injection e with e
  injection e with e
  subst e
  exact ⟨h1, h2⟩
theorem RchB.turn {s' : K.σ} {lv' : Value} (h : RchB o i s lv dv Dr w) (hR : o.R s' lv' w') (hb : Box w' i.cb 154 (rcC c i.hv ((k + 1 : Nat) : Int) lv' o.mp o.pp (.slice (some ⟨i.db, 0, none⟩) 32 i.dc))) (ho : Only (RoF o.F i.cb) w w') : RchB o i s' lv' dv Dr w' where
  ord := hR
  box := hb
  row := h.row.only ho fun k hk e => by
    have hk := ownB_slice.1 hk
    rcases e with e | e
    · exact h.dbB.2 (hk ▸ e)
    · exact h.ne (by rw [hk, e])
  dat := fun b hb2 => ⟨(h.dat b hb2).1.only ho fun k hk e => by
    have h1 := (h.dat b hb2).2 k hk
    rcases e with e | e
    · have := (o.lt h.ord).2 k e; omega
    · have := h.cbB.1; omega, (h.dat b hb2).2⟩
  cbB := h.cbB
  dbB := h.dbB
  ne := h.ne
  right := h.right
def RUseP (o : RefO K c k) (i : RcI) (s' : K.σ) (Dr : Nat → List Int) (n : Nat) (w : World) (e : Ending) (w' : World) : Prop :=
  ∃ v, e = .returned (.tuple #[v, .bool true]) ∧ RByt w' v (Dr n) ∧ (∀ j, ownB v j → o.B ≤ j) ∧ Rch o i s' Dr w' ∧ Only (RcW o i) w w'
def RDropP (o : RefO K c k) (i : RcI) (s' : K.σ) (Dr : Nat → List Int) (n : Nat) (w : World) (e : Ending) (w' : World) : Prop :=
  ∃ v, e = .returned (.tuple #[.agg #[.int .i64 n, v], .bool true]) ∧ RByt w' v (Dr n) ∧ (∀ j, ownB v j → o.B ≤ j) ∧ Rch o i s' Dr w' ∧ Only (RcW o i) w w'
theorem rch_all (h : Rch o i s Dr w) (hI : o.Inv s) : Calls Tryz.prog 26 #[.pointer (some ⟨i.cb, 0, none⟩)] w (RAllP o.B (K.sp.all s) w) := by
  obtain ⟨lv, dv, h⟩ := h
  exact o.all h.ord hI h.box
theorem rch_has {b : Int} (h : Rch o i s Dr w) (hI : o.Inv s) : Calls Tryz.prog 29 #[.pointer (some ⟨i.cb, 0, none⟩), .int .i64 b] w fun e w' => e = .returned (.bool (decide (b ∈ K.sp.all s))) ∧ Only Non w w' :=
  rhas16 (rch_all h hI)
theorem rch_takes (b level : Int) (h : Rch o i s Dr w) (hI : o.Inv s) : Calls Tryz.prog 31 #[.pointer (some ⟨i.cb, 0, none⟩), .int .i64 b, .int .i64 level] w fun e w' => e = .returned (.bool (takesB c k b level)) ∧ Only Non w w' := by
  obtain ⟨lv, dv, h⟩ := h
  exact o.takes b level h.ord hI h.box
theorem RoF.toW {j : Nat} (h : RoF o.F i.cb j) : RcW o i j := Or.elim h .inl fun h => .inr (.inl h)
end
section
set_option maxHeartbeats 4000000
set_option maxRecDepth 100000
variable {K : OKind} {c : CfgA} {k : Nat} {o : RefO K c k} {i : RcI} {s : K.σ} {Dr : Nat → List Int} {w : World}
theorem rch_use_no {b : Int} (h : Rch o i s Dr w) (hI : o.Inv s) (hb : b ∉ K.sp.all s) :
    Calls Tryz.prog 92 #[.pointer (some ⟨i.cb, 0, none⟩), .int .i64 b] w fun e w' => e = .returned (.tuple #[.slice none 0 0, .bool false]) ∧ Only Non w w' := by
  have HH := rch_has (b := b) h hI
  rw [decide_eq_false hb] at HH
  have HH := Lib.hid HH
  clear h hI hb
  go_enter Tryz.func92, Tryz.ntmps92
  go_wp2_with (go_at_call 29; refine HH.out.mono ?_; rintro e W1 ⟨rfl, ho1⟩)
  go_ret2
  exact ⟨rfl, ho1⟩
theorem rch_use_in {n : Nat} (h : Rch o i s Dr w) (hI : o.Inv s) (hb : (n : Int) ∈ K.sp.all s) (hn : n < 32) (hage : K.sp.age s < maxAge) :
    Calls Tryz.prog 92 #[.pointer (some ⟨i.cb, 0, none⟩), .int .i64 n] w (RUseP o i (K.sp.use s n) Dr n w) := by
  have HH := rch_has (b := (n : Int)) h hI
  rw [decide_eq_true hb] at HH
  have HH := Lib.hid HH
  obtain ⟨lv, dv, h⟩ := h
  have HU := Lib.hid fun (W : World) (hC : RchB o i s lv dv Dr W) => o.use hC.ord hI hC.box hC.cbB.2 hb hage
  have H := Lib.hid h
  have HN := Lib.hid hn
  clear h hI hb hage hn
  go_enter Tryz.func92, Tryz.ntmps92
  go_upto_region 3 with (go_at_call 29; refine HH.out.mono ?_; rintro e W1 ⟨rfl, ho1⟩)
  have H1 := Lib.hid (H.out.keep ho1)
  have HO1 := Lib.hid ho1
  clear ho1 H HH
  go_upto_region 4 with (go_at_call 162; refine (HU.out W1 H1.out).mono ?_; rintro e W2 ⟨A, m1, m2, lv2, rfl, h1, h2, h3⟩)
  have H2 := Lib.hid (H1.out.turn h1 h2 h3)
  have HO2 := Lib.hid h3
  clear h1 h2 h3
  have x1 := H2.out.c21
  have x2 := (H2.out.cd HN.out).1
  have HD := Lib.hid (H2.out.dat n HN.out)
  have hn0 : (0 : Int) ≤ (n : Int) := Int.natCast_nonneg n
  have hn1 : (n : Int) < 32 := by have := HN.out; omega
  go_wp2_with fail
  go_ret2
  exact ⟨_, rfl, HD.out.1, HD.out.2, ⟨_, _, H2.out⟩, (HO1.out.mono fun _ h => h.elim).trans (HO2.out.mono fun j hj => .inl (RoF.toW hj))⟩
theorem rch_drop_no {b : Int} (h : Rch o i s Dr w) (hI : o.Inv s) (hb : b ∉ K.sp.all s) :
    Calls Tryz.prog 97 #[.pointer (some ⟨i.cb, 0, none⟩), .int .i64 b] w fun e w' => e = .returned (.tuple #[.agg zF, .bool false]) ∧ Only Non w w' := by
  have HB := Lib.hid (Box.fresh w 38 zF)
  have HO := Lib.hid ((Only.refl Non w).alloc (.cells zF 38))
  have HH := rch_has (b := b) (h.keep HO.out) hI
  rw [decide_eq_false hb] at HH
  have HH := Lib.hid HH
  clear h hI hb
  go_enter Tryz.func97, Tryz.ntmps97
  go_upto_region 1 with fail
  change Code.wp _ _ _ _ (w.alloc (.cells zF 38))
  generalize w.alloc (.cells zF 38) = W at *
  obtain ⟨rb, hrb⟩ : ∃ rb, rb = w.heap.size := ⟨_, rfl⟩
  have HLB := Lib.hid (show w.heap.size ≤ rb from Nat.le_of_eq hrb.symm)
  rw [← hrb] at HB ⊢
  clear hrb
  go_upto_region 2 with (go_at_call 29; refine HH.out.mono ?_; rintro e W1 ⟨rfl, ho1⟩)
  have HB1 := Lib.hid (ho1.box HB.out id)
  have HO1 := Lib.hid (HO.out.trans ho1)
  clear ho1
  go_wp2_with (refine wpList_store_row rfl 38 _ _ rfl rb zF rfl rfl 38 _ HB1.out (by kernel_rfl) rfl (by simp [zF, Value.oneCell']) ?_)
  refine bodyPost_ret (results_ct rfl _ _ rb _ zF (0, 0) _ rfl (HB1.out.setRow' _) Tryz.underlying38 rfl (by kernel_rfl)) rfl ?_
  exact ⟨rfl, HO1.out.setRow' (.inr HLB.out) _⟩
theorem rch_drop_in {n : Nat} (h : Rch o i s Dr w) (hI : o.Inv s) (hb : (n : Int) ∈ K.sp.all s) (hn : n < 32) :
    Calls Tryz.prog 97 #[.pointer (some ⟨i.cb, 0, none⟩), .int .i64 n] w (RDropP o i (K.sp.rem s n) Dr n w) := by
  have HB := Lib.hid (Box.fresh w 38 zF)
  have HO := Lib.hid ((Only.refl Non w).alloc (.cells zF 38))
  have HH := rch_has (b := (n : Int)) (h.keep HO.out) hI
  rw [decide_eq_true hb] at HH
  have HH := Lib.hid HH
  obtain ⟨lv, dv, h⟩ := h
  have HU := Lib.hid fun (W : World) (hC : RchB o i s lv dv Dr W) => o.rem hC.ord hI hC.box hC.cbB.2 hb
  have HW := Lib.hid fun (g : Nat) (hg : w.heap.size ≤ g) => h.notW hg
  have H := Lib.hid (h.keep HO.out)
  have HN := Lib.hid hn
  clear h hI hb hn
  go_enter Tryz.func97, Tryz.ntmps97
  go_upto_region 1 with fail
  change Code.wp _ _ _ _ (w.alloc (.cells zF 38))
  generalize w.alloc (.cells zF 38) = W at *
  obtain ⟨rb, hrb⟩ : ∃ rb, rb = w.heap.size := ⟨_, rfl⟩
  have HLB := Lib.hid (show w.heap.size ≤ rb from Nat.le_of_eq hrb.symm)
  rw [← hrb] at HB ⊢
  clear hrb
  go_upto_region 3 with (go_at_call 29; refine HH.out.mono ?_; rintro e W1 ⟨rfl, ho1⟩)
  have H1 := Lib.hid (H.out.keep ho1)
  have HB1 := Lib.hid (ho1.box HB.out id)
  have HO1 := Lib.hid (HO.out.trans ho1)
  clear ho1 H HH HB HO
  go_upto_region 4 with (go_at_call 162; refine (HU.out W1 H1.out).mono ?_; rintro e W2 ⟨A, m1, m2, lv2, rfl, h1, h2, h3⟩)
  have H2 := Lib.hid (H1.out.turn h1 h2 h3)
  have HB2 := Lib.hid (h3.box HB1.out fun e => HW.out rb HLB.out (RoF.toW e))
  have HO2 := Lib.hid ((HO1.out.mono (S' := RcW o i) fun _ h => h.elim).trans (h3.mono fun j hj => .inl (RoF.toW hj)))
  clear h1 h2 h3
  have x1 := H2.out.c21
  have x2 := (H2.out.cd HN.out).1
  obtain ⟨h5, h6⟩ := H2.out.dat n HN.out
  obtain ⟨A5, c5, e5⟩ := h5.shape
  rw [e5] at h5 h6 x2
  have HD := Lib.hid h5
  have HE := Lib.hid h6
  have hn0 : (0 : Int) ≤ (n : Int) := Int.natCast_nonneg n
  have hn1 : (n : Int) < 32 := by have := HN.out; omega
  clear h5 h6 e5
  generalize (Dr n).length = len at *
  go_wp2_with (refine wpList_store_row rfl 38 _ _ rfl rb #[.int .i64 n, .slice A5 len c5] rfl rfl 38 _ HB2.out (by kernel_rfl) rfl (by simp [Value.oneCell']) ?_)
  refine bodyPost_ret (results_ct rfl _ _ rb _ #[.int .i64 n, .slice A5 len c5] (0, 0) _ rfl (HB2.out.setRow' _) Tryz.underlying38 rfl (by kernel_rfl)) rfl ?_
  have hos : Only (Just rb) W2 (W2.setRow rb #[.int .i64 n, .slice A5 len c5]) := (Only.refl (Just rb) W2).setRow' (.inl (show Just rb rb from rfl)) _
  refine ⟨_, rfl, HD.out.only hos fun j hj e => ?_, HE.out, ⟨_, _, H2.out.offT HB2.out (by decide) (by decide) (HW.out rb HLB.out) hos⟩, HO2.out.setRow' (.inr HLB.out) _⟩
  obtain ⟨cs, hb⟩ := HD.out.1.box hj
  exact hb.off HB2.out (by decide) e
end
section
variable {K : OKind} {c : CfgA} {k : Nat} {o : RefO K c k} {i : RcI} {s : K.σ} {lv : Value} {dv : Nat → Value} {Dr : Nat → List Int} {w w' : World}
theorem RchB.setd (h : RchB o i s lv dv Dr w) {n : Nat} (hn : n < 32) {v : Value} {dl : List Int} (hv : RByt w v dl) (hB : ∀ j, ownB v j → o.B ≤ j) : RchB o i s lv (updN dv n v) (updN Dr n dl) (w.setCell ⟨i.db, n, none⟩ v) := by
  have ho : Only (Just i.db) w (w.setCell ⟨i.db, n, none⟩ v) := (Only.refl (Just i.db) w).setCell (p := ⟨i.db, n, none⟩) (.inl (show Just i.db i.db from rfl)) v
  have hne : ∀ j, o.B ≤ j → ¬ Just i.db j := fun j hj e => by have e : j = i.db := e; have := h.dbB.1; omega
  refine ⟨o.off h.ord ho (fun j hj e => h.dbB.2 ((show j = i.db from e) ▸ hj)) fun j hj _ => hne j hj, ho.box h.box h.ne, ?_, fun b hb => ?_, h.cbB, h.dbB, h.ne, h.right⟩
  · have := h.row.store (i := n) (by rw [qvL_len]; exact hn) v (ownB_slice.2 rfl)
    rwa [qvL_set] at this
  · unfold updN
    by_cases e : b = n
    · rw [if_pos e, if_pos e]
      exact ⟨hv.only ho fun j hj => hne j (hB j hj), hB⟩
    · rw [if_neg e, if_neg e]
      exact ⟨(h.dat b hb).1.only ho fun j hj => hne j ((h.dat b hb).2 j hj), (h.dat b hb).2⟩
theorem Only.db {o : RefO K c k} {i : RcI} {n : Nat} {v : Value} : Only (RcW o i) w (w.setCell ⟨i.db, n, none⟩ v) := (Only.refl _ w).setCell (p := ⟨i.db, n, none⟩) (.inl (.inr (.inr rfl))) v
end
def RSetP {K : OKind} {c : CfgA} {k : Nat} (o : RefO K c k) (i : RcI) (s : K.σ) (Dr : Nat → List Int) (n : Nat) (dl : List Int) (w : World) (e : Ending) (w' : World) : Prop :=
  e = .returned (.bool true) ∧ Rch o i s (updN Dr n dl) w' ∧ Only (RcW o i) w w'
section
set_option maxHeartbeats 4000000
set_option maxRecDepth 100000
variable {K : OKind} {c : CfgA} {k : Nat} {o : RefO K c k} {i : RcI} {s : K.σ} {Dr : Nat → List Int} {w : World}
theorem rch_set_no {b : Int} {dl : List Int} {u : Value} (h : Rch o i s Dr w) (hI : o.Inv s) (hb : b ∉ K.sp.all s) (hby : Byt w u dl) :
    Calls Tryz.prog 95 #[.pointer (some ⟨i.cb, 0, none⟩), .agg #[.int .i64 b, u]] w fun e w' => e = .returned (.bool false) ∧ Only Non w w' := by
  obtain ⟨A, cp, rfl, hle, hmax, hsrc⟩ := hby
  have HSRC := Lib.hid hsrc
  have HMAX := Lib.hid hmax
  have HB := Lib.hid (Box.fresh w 38 #[.int .i64 b, .slice A dl.length cp])
  have HO := Lib.hid ((Only.refl Non w).alloc (.cells #[.int .i64 b, .slice A dl.length cp] 38))
  have HH := Lib.hid fun (W : World) (hC : Rch o i s Dr W) => rch_has (b := b) hC hI
  have HM := Lib.hid (show decide (b ∈ K.sp.all s) = false from decide_eq_false hb)
  obtain ⟨lv, dv, h⟩ := h
  have HW := Lib.hid fun (g : Nat) (hg : w.heap.size ≤ g) => h.notW hg
  have H := Lib.hid (h.keep HO.out)
  have H3 := Lib.hid h.right.p3
  clear hsrc hmax hle h hI hb 
  go_enter Tryz.func95, Tryz.ntmps95
  go_upto_region 1 with fail
  change Code.wp _ _ _ _ (w.alloc (.cells #[.int .i64 b, .slice A dl.length cp] 38))
  generalize w.alloc (.cells #[.int .i64 b, .slice A dl.length cp] 38) = W at *
  obtain ⟨fb, hfb⟩ : ∃ fb, fb = w.heap.size := ⟨_, rfl⟩
  have HLB := Lib.hid (show w.heap.size ≤ fb from Nat.le_of_eq hfb.symm)
  rw [← hfb] at HB ⊢
  clear hfb
  have HLEN := Lib.hid (show dl.length = dl.length from rfl)
  have k1 : W.drew.cell? ⟨fb, 0, none⟩ = some (.int .i64 b) := HB.out.cellAt rfl
  have k2 : W.drew.cell? ⟨fb, 1, none⟩ = some (.slice A dl.length cp) := HB.out.cellAt rfl
  have k3 : W.drew.cell? ⟨i.cb, 3, none⟩ = some (.int .i64 (c.f 3)) := rcC_f H.out.box (by decide)
  refine wp_region_tail (S := (fun w' : World => w'.cell? ⟨fb, 0, none⟩ = some (.int .i64 b) ∧ w'.cell? ⟨fb, 1, none⟩ = some (.slice A dl.length cp) ∧ w'.cell? ⟨i.cb, 3, none⟩ = some (.int .i64 (c.f 3)))) 15 (by kernel_rfl) (by kernel_rfl) ?_ ?_
  · exact ⟨by assumption, by assumption, by assumption⟩
  intro hSS
  refine wpHd_take (i := 0) (v := ?_) (by kernel_rfl) rfl (by kernel_rfl) (fun _ _ _ h => h) (.inl ⟨by rfl, ?_⟩) hSS ?_
  rotate_left
  · intro w hSw; (try dsimp only at hSw); go_simp; (try with_reducible rfl)
  refine wpHd_take (i := 1) (v := ?_) (by kernel_rfl) rfl (by kernel_rfl) (fun _ _ _ h => h) (.inl ⟨by rfl, ?_⟩) hSS ?_
  rotate_left
  · intro w hSw; (try dsimp only at hSw); go_simp; (try with_reducible rfl)
  refine wpHd_take (i := 2) (v := ?_) (by kernel_rfl) rfl (by kernel_rfl) (fun _ _ _ h => h) (.inl ⟨by rfl, ?_⟩) hSS ?_
  rotate_left
  · intro w hSw; (try dsimp only at hSw); go_simp; (try with_reducible rfl)
  try simp only [Act.put, List.getElem_toArray, List.getElem_cons_succ, List.getElem_cons_zero, List.setIfInBounds_toArray, List.set_cons_zero, List.set_cons_succ]
  refine wpHd_one (i := 3) rfl (by kernel_rfl) (fun K hK => ?_)
  go_simp
  refine (HH.out W.drew ⟨_, _, H.out.keep ((Only.refl Non W).drew)⟩).mono ?_
  rintro e W1 ⟨rfl, ho1⟩
  rw [HM.out]
  have HO1 := Lib.hid (((Only.refl Non W).drew).trans ho1)
  have k1 := ho1.cell hSS.1 id
  have k2 := ho1.cell hSS.2.1 id
  have k3 := ho1.cell hSS.2.2 id
  clear ho1
  refine hK.out _ _ ?_ (fun hSS => ?_)
  · exact ⟨by assumption, by assumption, by assumption⟩
  clear hK
  refine wpHd_take (i := 4) (v := ?_) (by kernel_rfl) rfl (by kernel_rfl) (fun _ _ _ h => h) (.inl ⟨by rfl, ?_⟩) hSS ?_
  rotate_left
  · intro w hSw; (try dsimp only at hSw); go_simp; (try with_reducible rfl)
  refine wpHd_take (i := 5) (v := ?_) (by kernel_rfl) rfl (by kernel_rfl) (fun _ _ _ h => h) (.inl ⟨by rfl, ?_⟩) hSS ?_
  rotate_left
  · intro w hSw; (try dsimp only at hSw); go_simp; (try with_reducible rfl)
  refine wpHd_take (i := 6) (v := undef) (by kernel_rfl) rfl (by kernel_rfl) (fun _ _ _ h => h) (Or.inr ⟨by rfl, rfl⟩) (by assumption) ?_
  try simp only [Act.put, List.getElem_toArray, List.getElem_cons_succ, List.getElem_cons_zero, List.setIfInBounds_toArray, List.set_cons_zero, List.set_cons_succ]
  refine wpHd_take (i := 7) (v := undef) (by kernel_rfl) rfl (by kernel_rfl) (fun _ _ _ h => h) (Or.inr ⟨by rfl, rfl⟩) (by assumption) ?_
  refine wpHd_take (i := 8) (v := undef) (by kernel_rfl) rfl (by kernel_rfl) (fun _ _ _ h => h) (Or.inr ⟨by rfl, rfl⟩) (by assumption) ?_
  refine wpHd_take (i := 9) (v := undef) (by kernel_rfl) rfl (by kernel_rfl) (fun _ _ _ h => h) (Or.inr ⟨by rfl, rfl⟩) (by assumption) ?_
  refine wpHd_take (i := 10) (v := undef) (by kernel_rfl) rfl (by kernel_rfl) (fun _ _ _ h => h) (Or.inr ⟨by rfl, rfl⟩) (by assumption) ?_
  try simp only [Act.put, List.getElem_toArray, List.getElem_cons_succ, List.getElem_cons_zero, List.setIfInBounds_toArray, List.set_cons_zero, List.set_cons_succ]
  refine wpHd_take (i := 11) (v := undef) (by kernel_rfl) rfl (by kernel_rfl) (fun _ _ _ h => h) (Or.inr ⟨by rfl, rfl⟩) (by assumption) ?_
  refine wpHd_take (i := 12) (v := undef) (by kernel_rfl) rfl (by kernel_rfl) (fun _ _ _ h => h) (Or.inr ⟨by rfl, rfl⟩) (by assumption) ?_
  refine wpHd_take (i := 13) (v := undef) (by kernel_rfl) rfl (by kernel_rfl) (fun _ _ _ h => h) (Or.inr ⟨by rfl, rfl⟩) (by assumption) ?_
  refine wpHd_take (i := 14) (v := undef) (by kernel_rfl) rfl (by kernel_rfl) (fun _ _ _ h => h) (Or.inr ⟨by rfl, rfl⟩) (by assumption) ?_
  try simp only [Act.put, List.getElem_toArray, List.getElem_cons_succ, List.getElem_cons_zero, List.setIfInBounds_toArray, List.set_cons_zero, List.set_cons_succ]
  refine wpHd_end (by kernel_rfl) ?_
  go_wp2
  go_ret
  exact ⟨rfl, HO.out.trans HO1.out⟩
theorem rch_set_len {n : Nat} {dl : List Int} {u : Value} (h : Rch o i s Dr w) (hI : o.Inv s) (hb : (n : Int) ∈ K.sp.all s) (hby : Byt w u dl) (hl : (dl.length : Int) ≠ c.f 3) :
    Calls Tryz.prog 95 #[.pointer (some ⟨i.cb, 0, none⟩), .agg #[.int .i64 n, u]] w fun e w' => e = .returned (.bool false) ∧ Only Non w w' := by
  have hl2 : ((dl.length : Int) != c.f 3) = true := by rw [bne_iff_ne]; exact hl
  obtain ⟨A, cp, rfl, hle, hmax, hsrc⟩ := hby
  have HSRC := Lib.hid hsrc
  have HMAX := Lib.hid hmax
  have HB := Lib.hid (Box.fresh w 38 #[.int .i64 n, .slice A dl.length cp])
  have HO := Lib.hid ((Only.refl Non w).alloc (.cells #[.int .i64 n, .slice A dl.length cp] 38))
  have HH := Lib.hid fun (W : World) (hC : Rch o i s Dr W) => rch_has (b := (n : Int)) hC hI
  have HM := Lib.hid (show decide ((n : Int) ∈ K.sp.all s) = true from decide_eq_true hb)
  obtain ⟨lv, dv, h⟩ := h
  have HW := Lib.hid fun (g : Nat) (hg : w.heap.size ≤ g) => h.notW hg
  have H := Lib.hid (h.keep HO.out)
  have H3 := Lib.hid h.right.p3
  clear hsrc hmax hle h hI hb hl
  go_enter Tryz.func95, Tryz.ntmps95
  go_upto_region 1 with fail
  change Code.wp _ _ _ _ (w.alloc (.cells #[.int .i64 n, .slice A dl.length cp] 38))
  generalize w.alloc (.cells #[.int .i64 n, .slice A dl.length cp] 38) = W at *
  obtain ⟨fb, hfb⟩ : ∃ fb, fb = w.heap.size := ⟨_, rfl⟩
  have HLB := Lib.hid (show w.heap.size ≤ fb from Nat.le_of_eq hfb.symm)
  rw [← hfb] at HB ⊢
  clear hfb
  have HLEN := Lib.hid (show dl.length = dl.length from rfl)
  have k1 : W.drew.cell? ⟨fb, 0, none⟩ = some (.int .i64 n) := HB.out.cellAt rfl
  have k2 : W.drew.cell? ⟨fb, 1, none⟩ = some (.slice A dl.length cp) := HB.out.cellAt rfl
  have k3 : W.drew.cell? ⟨i.cb, 3, none⟩ = some (.int .i64 (c.f 3)) := rcC_f H.out.box (by decide)
  refine wp_region_tail (S := (fun w' : World => w'.cell? ⟨fb, 0, none⟩ = some (.int .i64 n) ∧ w'.cell? ⟨fb, 1, none⟩ = some (.slice A dl.length cp) ∧ w'.cell? ⟨i.cb, 3, none⟩ = some (.int .i64 (c.f 3)))) 15 (by kernel_rfl) (by kernel_rfl) ?_ ?_
  · exact ⟨by assumption, by assumption, by assumption⟩
  intro hSS
  refine wpHd_take (i := 0) (v := ?_) (by kernel_rfl) rfl (by kernel_rfl) (fun _ _ _ h => h) (.inl ⟨by rfl, ?_⟩) hSS ?_
  rotate_left
  · intro w hSw; (try dsimp only at hSw); go_simp; (try with_reducible rfl)
  refine wpHd_take (i := 1) (v := ?_) (by kernel_rfl) rfl (by kernel_rfl) (fun _ _ _ h => h) (.inl ⟨by rfl, ?_⟩) hSS ?_
  rotate_left
  · intro w hSw; (try dsimp only at hSw); go_simp; (try with_reducible rfl)
  refine wpHd_take (i := 2) (v := ?_) (by kernel_rfl) rfl (by kernel_rfl) (fun _ _ _ h => h) (.inl ⟨by rfl, ?_⟩) hSS ?_
  rotate_left
  · intro w hSw; (try dsimp only at hSw); go_simp; (try with_reducible rfl)
  try simp only [Act.put, List.getElem_toArray, List.getElem_cons_succ, List.getElem_cons_zero, List.setIfInBounds_toArray, List.set_cons_zero, List.set_cons_succ]
  refine wpHd_one (i := 3) rfl (by kernel_rfl) (fun K hK => ?_)
  go_simp
  refine (HH.out W.drew ⟨_, _, H.out.keep ((Only.refl Non W).drew)⟩).mono ?_
  rintro e W1 ⟨rfl, ho1⟩
  rw [HM.out]
  have HO1 := Lib.hid (((Only.refl Non W).drew).trans ho1)
  have k1 := ho1.cell hSS.1 id
  have k2 := ho1.cell hSS.2.1 id
  have k3 := ho1.cell hSS.2.2 id
  clear ho1
  refine hK.out _ _ ?_ (fun hSS => ?_)
  · exact ⟨by assumption, by assumption, by assumption⟩
  clear hK
  refine wpHd_take (i := 4) (v := ?_) (by kernel_rfl) rfl (by kernel_rfl) (fun _ _ _ h => h) (.inl ⟨by rfl, ?_⟩) hSS ?_
  rotate_left
  · intro w hSw; (try dsimp only at hSw); go_simp; (try with_reducible rfl)
  refine wpHd_take (i := 5) (v := ?_) (by kernel_rfl) rfl (by kernel_rfl) (fun _ _ _ h => h) (.inl ⟨by rfl, ?_⟩) hSS ?_
  rotate_left
  · intro w hSw; (try dsimp only at hSw); go_simp; (try with_reducible rfl)
  refine wpHd_take (i := 6) (v := ?_) (by kernel_rfl) rfl (by kernel_rfl) (fun _ _ _ h => h) (.inl ⟨by rfl, ?_⟩) hSS ?_
  rotate_left
  · intro w hSw; (try dsimp only at hSw); go_simp; (try with_reducible rfl)
  try simp only [Act.put, List.getElem_toArray, List.getElem_cons_succ, List.getElem_cons_zero, List.setIfInBounds_toArray, List.set_cons_zero, List.set_cons_succ]
  refine wpHd_take (i := 7) (v := ?_) (by kernel_rfl) rfl (by kernel_rfl) (fun _ _ _ h => h) (.inl ⟨by rfl, ?_⟩) hSS ?_
  rotate_left
  · intro w hSw; (try dsimp only at hSw); go_simp; (try with_reducible rfl)
  refine wpHd_take (i := 8) (v := ?_) (by kernel_rfl) rfl (by kernel_rfl) (fun _ _ _ h => h) (.inl ⟨by rfl, ?_⟩) hSS ?_
  rotate_left
  · intro w hSw; (try dsimp only at hSw); go_simp; (try with_reducible rfl)
  refine wpHd_take (i := 9) (v := ?_) (by kernel_rfl) rfl (by kernel_rfl) (fun _ _ _ h => h) (.inl ⟨by rfl, ?_⟩) hSS ?_
  rotate_left
  · intro w hSw; (try dsimp only at hSw); go_simp; (try with_reducible rfl)
  refine wpHd_take (i := 10) (v := ?_) (by kernel_rfl) rfl (by kernel_rfl) (fun _ _ _ h => h) (.inl ⟨by rfl, ?_⟩) hSS ?_
  rotate_left
  · intro w hSw; (try dsimp only at hSw); go_simp; (try with_reducible rfl)
  try simp only [Act.put, List.getElem_toArray, List.getElem_cons_succ, List.getElem_cons_zero, List.setIfInBounds_toArray, List.set_cons_zero, List.set_cons_succ]
  refine wpHd_take (i := 11) (v := ?_) (by kernel_rfl) rfl (by kernel_rfl) (fun _ _ _ h => h) (.inl ⟨by rfl, ?_⟩) hSS ?_
  rotate_left
  · intro w hSw; (try dsimp only at hSw); go_simp; (try with_reducible rfl)
  refine wpHd_take (i := 12) (v := ?_) (by kernel_rfl) rfl (by kernel_rfl) (fun _ _ _ h => h) (.inl ⟨by rfl, ?_⟩) hSS ?_
  rotate_left
  · intro w hSw; (try dsimp only at hSw); go_simp; (try with_reducible rfl)
  refine wpHd_take (i := 13) (v := ?_) (by kernel_rfl) rfl (by kernel_rfl) (fun _ _ _ h => h) (.inl ⟨by rfl, ?_⟩) hSS ?_
  rotate_left
  · intro w hSw; (try dsimp only at hSw); go_simp; (try with_reducible rfl)
  refine wpHd_take (i := 14) (v := ?_) (by kernel_rfl) rfl (by kernel_rfl) (fun _ _ _ h => h) (.inl ⟨by rfl, ?_⟩) hSS ?_
  rotate_left
  · intro w hSw; (try dsimp only at hSw); go_simp; (try with_reducible rfl)
  try simp only [Act.put, List.getElem_toArray, List.getElem_cons_succ, List.getElem_cons_zero, List.setIfInBounds_toArray, List.set_cons_zero, List.set_cons_succ]
  refine wpHd_end (by kernel_rfl) ?_
  go_wp2
  go_ret
  exact ⟨rfl, HO.out.trans HO1.out⟩
theorem rch_set_in {n : Nat} {dl : List Int} {u : Value} (h : Rch o i s Dr w) (hI : o.Inv s) (hb : (n : Int) ∈ K.sp.all s) (hn : n < 32) (hby : Byt w u dl) (hl : (dl.length : Int) = c.f 3) :
    Calls Tryz.prog 95 #[.pointer (some ⟨i.cb, 0, none⟩), .agg #[.int .i64 n, u]] w (RSetP o i s Dr n dl w) := by
  have hl2 : ((dl.length : Int) != c.f 3) = false := by rw [bne_eq_false_iff_eq]; exact hl
  have HL := Lib.hid hl
  have HN := Lib.hid hn
  obtain ⟨A, cp, rfl, hle, hmax, hsrc⟩ := hby
  have HSRC := Lib.hid hsrc
  have HMAX := Lib.hid hmax
  have HB := Lib.hid (Box.fresh w 38 #[.int .i64 n, .slice A dl.length cp])
  have HO := Lib.hid ((Only.refl Non w).alloc (.cells #[.int .i64 n, .slice A dl.length cp] 38))
  have HH := Lib.hid fun (W : World) (hC : Rch o i s Dr W) => rch_has (b := (n : Int)) hC hI
  have HM := Lib.hid (show decide ((n : Int) ∈ K.sp.all s) = true from decide_eq_true hb)
  obtain ⟨lv, dv, h⟩ := h
  have HW := Lib.hid fun (g : Nat) (hg : w.heap.size ≤ g) => h.notW hg
  have H := Lib.hid (h.keep HO.out)
  have H3 := Lib.hid h.right.p3
  clear hsrc hmax hle h hI hb hl hn
  go_enter Tryz.func95, Tryz.ntmps95
  go_upto_region 1 with fail
  change Code.wp _ _ _ _ (w.alloc (.cells #[.int .i64 n, .slice A dl.length cp] 38))
  generalize w.alloc (.cells #[.int .i64 n, .slice A dl.length cp] 38) = W at *
  obtain ⟨fb, hfb⟩ : ∃ fb, fb = w.heap.size := ⟨_, rfl⟩
  have HLB := Lib.hid (show w.heap.size ≤ fb from Nat.le_of_eq hfb.symm)
  rw [← hfb] at HB ⊢
  clear hfb
  have HLEN := Lib.hid (show dl.length = dl.length from rfl)
  have k1 : W.drew.cell? ⟨fb, 0, none⟩ = some (.int .i64 n) := HB.out.cellAt rfl
  have k2 : W.drew.cell? ⟨fb, 1, none⟩ = some (.slice A dl.length cp) := HB.out.cellAt rfl
  have k3 : W.drew.cell? ⟨i.cb, 3, none⟩ = some (.int .i64 (c.f 3)) := rcC_f H.out.box (by decide)
  refine wp_region_tail (S := (fun w' : World => w'.cell? ⟨fb, 0, none⟩ = some (.int .i64 n) ∧ w'.cell? ⟨fb, 1, none⟩ = some (.slice A dl.length cp) ∧ w'.cell? ⟨i.cb, 3, none⟩ = some (.int .i64 (c.f 3)))) 15 (by kernel_rfl) (by kernel_rfl) ?_ ?_
  · exact ⟨by assumption, by assumption, by assumption⟩
  intro hSS
  refine wpHd_take (i := 0) (v := ?_) (by kernel_rfl) rfl (by kernel_rfl) (fun _ _ _ h => h) (.inl ⟨by rfl, ?_⟩) hSS ?_
  rotate_left
  · intro w hSw; (try dsimp only at hSw); go_simp; (try with_reducible rfl)
  refine wpHd_take (i := 1) (v := ?_) (by kernel_rfl) rfl (by kernel_rfl) (fun _ _ _ h => h) (.inl ⟨by rfl, ?_⟩) hSS ?_
  rotate_left
  · intro w hSw; (try dsimp only at hSw); go_simp; (try with_reducible rfl)
  refine wpHd_take (i := 2) (v := ?_) (by kernel_rfl) rfl (by kernel_rfl) (fun _ _ _ h => h) (.inl ⟨by rfl, ?_⟩) hSS ?_
  rotate_left
  · intro w hSw; (try dsimp only at hSw); go_simp; (try with_reducible rfl)
  try simp only [Act.put, List.getElem_toArray, List.getElem_cons_succ, List.getElem_cons_zero, List.setIfInBounds_toArray, List.set_cons_zero, List.set_cons_succ]
  refine wpHd_one (i := 3) rfl (by kernel_rfl) (fun K hK => ?_)
  go_simp
  refine (HH.out W.drew ⟨_, _, H.out.keep ((Only.refl Non W).drew)⟩).mono ?_
  rintro e W1 ⟨rfl, ho1⟩
  rw [HM.out]
  have HO1 := Lib.hid (((Only.refl Non W).drew).trans ho1)
  have k1 := ho1.cell hSS.1 id
  have k2 := ho1.cell hSS.2.1 id
  have k3 := ho1.cell hSS.2.2 id
  clear ho1
  refine hK.out _ _ ?_ (fun hSS => ?_)
  · exact ⟨by assumption, by assumption, by assumption⟩
  clear hK
  refine wpHd_take (i := 4) (v := ?_) (by kernel_rfl) rfl (by kernel_rfl) (fun _ _ _ h => h) (.inl ⟨by rfl, ?_⟩) hSS ?_
  rotate_left
  · intro w hSw; (try dsimp only at hSw); go_simp; (try with_reducible rfl)
  refine wpHd_take (i := 5) (v := ?_) (by kernel_rfl) rfl (by kernel_rfl) (fun _ _ _ h => h) (.inl ⟨by rfl, ?_⟩) hSS ?_
  rotate_left
  · intro w hSw; (try dsimp only at hSw); go_simp; (try with_reducible rfl)
  refine wpHd_take (i := 6) (v := ?_) (by kernel_rfl) rfl (by kernel_rfl) (fun _ _ _ h => h) (.inl ⟨by rfl, ?_⟩) hSS ?_
  rotate_left
  · intro w hSw; (try dsimp only at hSw); go_simp; (try with_reducible rfl)
  try simp only [Act.put, List.getElem_toArray, List.getElem_cons_succ, List.getElem_cons_zero, List.setIfInBounds_toArray, List.set_cons_zero, List.set_cons_succ]
  refine wpHd_take (i := 7) (v := ?_) (by kernel_rfl) rfl (by kernel_rfl) (fun _ _ _ h => h) (.inl ⟨by rfl, ?_⟩) hSS ?_
  rotate_left
  · intro w hSw; (try dsimp only at hSw); go_simp; (try with_reducible rfl)
  refine wpHd_take (i := 8) (v := ?_) (by kernel_rfl) rfl (by kernel_rfl) (fun _ _ _ h => h) (.inl ⟨by rfl, ?_⟩) hSS ?_
  rotate_left
  · intro w hSw; (try dsimp only at hSw); go_simp; (try with_reducible rfl)
  refine wpHd_take (i := 9) (v := ?_) (by kernel_rfl) rfl (by kernel_rfl) (fun _ _ _ h => h) (.inl ⟨by rfl, ?_⟩) hSS ?_
  rotate_left
  · intro w hSw; (try dsimp only at hSw); go_simp; (try with_reducible rfl)
  refine wpHd_take (i := 10) (v := ?_) (by kernel_rfl) rfl (by kernel_rfl) (fun _ _ _ h => h) (.inl ⟨by rfl, ?_⟩) hSS ?_
  rotate_left
  · intro w hSw; (try dsimp only at hSw); go_simp; (try with_reducible rfl)
  try simp only [Act.put, List.getElem_toArray, List.getElem_cons_succ, List.getElem_cons_zero, List.setIfInBounds_toArray, List.set_cons_zero, List.set_cons_succ]
  refine wpHd_take (i := 11) (v := ?_) (by kernel_rfl) rfl (by kernel_rfl) (fun _ _ _ h => h) (.inl ⟨by rfl, ?_⟩) hSS ?_
  rotate_left
  · intro w hSw; (try dsimp only at hSw); go_simp; (try with_reducible rfl)
  refine wpHd_take (i := 12) (v := ?_) (by kernel_rfl) rfl (by kernel_rfl) (fun _ _ _ h => h) (.inl ⟨by rfl, ?_⟩) hSS ?_
  rotate_left
  · intro w hSw; (try dsimp only at hSw); go_simp; (try with_reducible rfl)
  refine wpHd_take (i := 13) (v := ?_) (by kernel_rfl) rfl (by kernel_rfl) (fun _ _ _ h => h) (.inl ⟨by rfl, ?_⟩) hSS ?_
  rotate_left
  · intro w hSw; (try dsimp only at hSw); go_simp; (try with_reducible rfl)
  refine wpHd_take (i := 14) (v := ?_) (by kernel_rfl) rfl (by kernel_rfl) (fun _ _ _ h => h) (.inl ⟨by rfl, ?_⟩) hSS ?_
  rotate_left
  · intro w hSw; (try dsimp only at hSw); go_simp; (try with_reducible rfl)
  try simp only [Act.put, List.getElem_toArray, List.getElem_cons_succ, List.getElem_cons_zero, List.setIfInBounds_toArray, List.set_cons_zero, List.set_cons_succ]
  refine wpHd_end (by kernel_rfl) ?_
  have HF1 := Lib.hid (HO1.out.box HB.out id)
  have H1 := Lib.hid (H.out.keep HO1.out)
  have HS1 := Lib.hid (HSRC.out.only (HO.out.trans HO1.out) fun _ _ _ _ => id)
  clear hSS k1 k2 k3 HB H hl2
  have y1 : W1.cell? ⟨fb, 1, none⟩ = some (.slice A dl.length cp) := HF1.out.cellAt rfl
  have HB1 := Lib.hid (show ([] : List Value).length + (bytes dl).length ≤ maxLen by rw [byt_len]; have := HMAX.out; have := HL.out; have := H3.out; unfold maxLen; simp; omega)
  have HB2 := Lib.hid (show (([] : List Value).length + (bytes dl).length) * 1 ≤ 140737488355328 by rw [byt_len]; have := HL.out; have := H3.out; simp; omega)
  go_upto_region 5 with (at_builtin; refine wpList_append_row _ rfl (.tmp 22) (.tmp 24) 36 5 rfl byteInfo rfl Tryz.underlying36 (.slice none 0 0) [] rfl (Row.nil_ _ _) A dl.length cp (bytes dl) rfl (by rw [byt_len]) HS1.out (bytes_one dl) HB1.out HB2.out ?_; intro v' W2 hr2 ho2 hk2 _; have HR2 := Lib.hid hr2; have HO2 := Lib.hid (ho2.mono (S' := Non) fun j hj => (ownB_none hj).elim); have HK2 := Lib.hid hk2; clear hr2 ho2 hk2)
  rw [List.nil_append] at HR2
  have hrb : RByt W2 v' dl := ⟨HR2.out, by have := HL.out; have := H3.out; omega⟩
  obtain ⟨A2, c2, e2⟩ := hrb.shape
  subst e2
  have HRB := Lib.hid hrb
  have H2 := Lib.hid (H1.out.keep HO2.out)
  have HF2 := Lib.hid (HO2.out.box HF1.out id)
  have HBS := Lib.hid (show o.B ≤ W1.heap.size from H1.out.bs)
  clear hrb y1 HF1 H1
  have k1 : W2.drew.cell? ⟨fb, 0, none⟩ = some (.int .i64 n) := HF2.out.cellAt rfl
  have k2 : W2.drew.cell? ⟨i.cb, 21, none⟩ = some (.slice (some ⟨i.db, 0, none⟩) 32 i.dc) := H2.out.c21
  refine wp_region_tail (S := (fun w' : World => w'.cell? ⟨fb, 0, none⟩ = some (.int .i64 n) ∧ w'.cell? ⟨i.cb, 21, none⟩ = some (.slice (some ⟨i.db, 0, none⟩) 32 i.dc))) 7 (by kernel_rfl) (by kernel_rfl) ?_ ?_
  · exact ⟨by assumption, by assumption⟩
  intro hSS
  refine wpHd_take (i := 0) (v := ?_) (by kernel_rfl) rfl (by kernel_rfl) (fun _ _ _ h => h) (.inl ⟨by rfl, ?_⟩) hSS ?_
  rotate_left
  · intro w hSw; (try dsimp only at hSw); go_simp; (try with_reducible rfl)
  refine wpHd_take (i := 1) (v := ?_) (by kernel_rfl) rfl (by kernel_rfl) (fun _ _ _ h => h) (.inl ⟨by rfl, ?_⟩) hSS ?_
  rotate_left
  · intro w hSw; (try dsimp only at hSw); go_simp; (try with_reducible rfl)
  refine wpHd_take (i := 2) (v := ?_) (by kernel_rfl) rfl (by kernel_rfl) (fun _ _ _ h => h) (.inl ⟨by rfl, ?_⟩) hSS ?_
  rotate_left
  · intro w hSw; (try dsimp only at hSw); go_simp; (try with_reducible rfl)
  refine wpHd_take (i := 3) (v := ?_) (by kernel_rfl) rfl (by kernel_rfl) (fun _ _ _ h => h) (.inl ⟨by rfl, ?_⟩) hSS ?_
  rotate_left
  · intro w hSw; (try dsimp only at hSw); go_simp; (try with_reducible rfl)
  try simp only [Act.put, List.getElem_toArray, List.getElem_cons_succ, List.getElem_cons_zero, List.setIfInBounds_toArray, List.set_cons_zero, List.set_cons_succ]
  refine wpHd_take (i := 4) (v := ?_) (by kernel_rfl) rfl (by kernel_rfl) (fun _ _ _ h => h) (.inl ⟨by rfl, ?_⟩) hSS ?_
  rotate_left
  · intro w hSw; (try dsimp only at hSw); go_simp; (try with_reducible rfl)
  refine wpHd_take (i := 5) (v := ?_) (by kernel_rfl) rfl (by kernel_rfl) (fun _ _ _ h => h) (.inl ⟨by rfl, ?_⟩) hSS ?_
  rotate_left
  · intro w hSw; (try dsimp only at hSw); go_simp; (try with_reducible rfl)
  refine wpHd_take (i := 6) (v := ?_) (by kernel_rfl) rfl (by kernel_rfl) (fun _ _ _ h => h) (.inl ⟨by rfl, ?_⟩) hSS ?_
  rotate_left
  · intro w hSw; (try dsimp only at hSw); go_simp; (try with_reducible rfl)
  try simp only [Act.put, List.getElem_toArray, List.getElem_cons_succ, List.getElem_cons_zero, List.setIfInBounds_toArray, List.set_cons_zero, List.set_cons_succ]
  refine wpHd_end (by kernel_rfl) ?_
  have x2 : W2.drew.cell? ⟨i.db, n, none⟩ = some (dv n) := (H2.out.cd HN.out).1
  have x3 : W2.drew.frozen? ⟨i.db, n, none⟩ = false := (H2.out.cd HN.out).2
  have hn0 : (0 : Int) ≤ (n : Int) := Int.natCast_nonneg n
  have hn1 : (n : Int) < 32 := by have := HN.out; omega
  clear hSS k1 k2
  go_wp2
  go_ret
  have hB2 : ∀ j, ownB (.slice A2 dl.length c2) j → o.B ≤ j := fun j hj => by
    rcases HK2.out j hj with h | h
    · exact (ownB_none h).elim
    · have := HBS.out; omega
  exact ⟨rfl, ⟨_, _, RchB.setd (w := W2.drew) (H2.out.keep ((Only.refl Non W2).drew)) HN.out (HRB.out.keep ((Only.refl Non W2).drew)) hB2⟩, (((HO.out.trans HO1.out).trans HO2.out).drew.mono fun _ h => h.elim).trans Only.db⟩
end
end Go.Proofs.YtodephhlhdbeoaaGreat
