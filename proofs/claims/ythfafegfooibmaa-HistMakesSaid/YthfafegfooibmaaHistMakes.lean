/- HistMakes, walked: operations that are made one behind the other are linear. -/
import Derived.Test.YthfafegfooibmaaHistNever
import Derived.Test.YthfafegfooibmaaHistM
import Derived.Test.YthfafegfooibmaaMapI
import Derived.Deep.DeepCutAuto
import Derived.Deep.LoopGhost
namespace Go.Proofs.Ythfafegfooibmaa
open Go.RowKit Go.ChangeShapes Go.WideShapes
set_option linter.unusedVariables false
set_option linter.unusedSimpArgs false
def isNilS : Value → Bool
  | .slice none _ _ => true
  | _ => false
def curD : Option DP → List Int
  | none => [0]
  | some p => if isNilS p.2 = true then [0] else p.1.data
def curF (F : Int → Option DP) (b : Int) : List Int := curD (F b)
def pSet (F : Int → Option DP) (k : Int) (p : DP) : Int → Option DP := fun x => if x = k then some p else F x
def pV (F : Int → Option DP) : Int → Option Value := fun b => (F b).map Prod.snd
theorem pV_set (F : Int → Option DP) (k : Int) (p : DP) : fSet (pV F) k p.2 = pV (pSet F k p) := by
  funext x
  unfold fSet pV pSet
  split <;> rfl
def MmRel (L : List DP) (mb : Nat) (W : World) (n : Nat) (ov i : Value) (wr : World) : Prop :=
  ∃ (k : Nat) (LO : List DP) (F : Int → Option DP), n + k = L.length ∧ i = .int .i64 k ∧ OwnD wr W.heap.size ov LO ∧ MapI wr mb (pV F) ∧ MkInv k (LO.map Prod.fst) (curF F) ∧ (∀ b p, F b = some p → p ∈ L) ∧ ¬ ownB ov mb ∧ Only Non W wr
theorem MapI.cell_ne {w : World} {mb g o : Nat} {F : Int → Option Value} {u : Value} (h : MapI w mb F) (hc : w.cell? ⟨g, o, none⟩ = some u) : g ≠ mb := by
  rintro rfl
  obtain ⟨es, clock, h1, _⟩ := h
  simp [World.cell?, h1] at hc
theorem DataOk.not_map {w : World} {F : Nat → Prop} {G : Int → Option Value} {p : DP} {mb : Nat} (h : DataOk w F p) (hm : MapI w mb G) (h0 : 0 < p.1.data.length) : ∀ k, ownB p.2 k → ¬ Just mb k := by
  intro k hk e
  obtain ⟨dA, dc, ev, hb, _⟩ := h
  rw [ev] at hb hk
  obtain ⟨g, o, rfl, hc⟩ := hb.cellAt h0
  have hg := hm.cell_ne hc
  exact hg (by have h1 := ownB_slice.1 hk; have h2 : k = mb := e; omega)
theorem OwnD.mapped {w w' : World} {base mb : Nat} {v : Value} {L : List DP} {G : Int → Option Value} (h : OwnD w base v L) (hm : MapI w mb G) (ho : Only (Just mb) w w') (hn : ¬ ownB v mb) : OwnD w' base v L :=
  h.far ho (fun k hk e => hn (show ownB v mb from e ▸ hk)) fun p hp h0 => (h.2 p hp).not_map hm h0
/-- the operation that is made -/
def mkO (od : DoneR) (cur : List Int) (fr tt : Int) : DoneR := ⟨0, 0, 0, od.write, od.block, cur, 0, fr, tt, false⟩
theorem mk_step {k : Nat} {LO : List DP} {F : Int → Option DP} {p : DP} {m : Nat} {tt : Int} {v : Value} (h : MkInv k (LO.map Prod.fst) (curF F)) (hm : m < 40) (ht : tt = 10 * ((k : Int) + 1) + m ∨ (tt = -1 ∧ p.1.write = true)) :
    MkInv (k + 1) ((LO ++ [((mkO p.1 (curD ((if p.1.write = true then pSet F p.1.block p else F) p.1.block)) (10 * ((k : Int) + 1) - m) tt, v) : DP)]).map Prod.fst) (curF (if p.1.write = true then pSet F p.1.block p else F)) := by
  rw [List.map_append, List.map_cons, List.map_nil]
  refine h.step ?_ ?_ ?_ ?_ fun b => ?_
  · unfold countsD mkO
    dsimp only
    rcases ht with rfl | ⟨rfl, hw⟩
    · have h1 : decide (0 ≤ 10 * ((k : Int) + 1) + m) = true := by simp; omega
      rw [h1]; rfl
    · rw [hw]; rfl
  · show 10 * ((k : Int) + 1) - m ≤ 10 * ((k + 1 : Nat) : Int)
    push_cast; omega
  · intro hmu
    show 10 * ((k + 1 : Nat) : Int) ≤ tt
    rcases ht with rfl | ⟨rfl, _⟩
    · push_cast; omega
    · cases hmu
  · show p.1.write = true ∨ curD _ = curF F p.1.block
    by_cases hw : p.1.write = true
    · exact .inl hw
    · rw [if_neg hw]; exact .inr rfl
  · show curF _ b = if b = p.1.block then (if p.1.write = true then curD _ else curF F b) else curF F b
    by_cases hw : p.1.write = true
    · rw [if_pos hw, if_pos hw]
      split
      · rename_i e; rw [e]; rfl
      · rename_i e; simp [curF, pSet, e]
    · rw [if_neg hw, if_neg hw]
      split <;> rfl
theorem pair_cells {W : World} {g o : Nat} {L : List DP} (h : ∀ ad, (some (⟨g, o, none⟩ : Addr)) = some ad → ∀ j u, (L.flatMap dC)[j]? = some u → W.cell? (ad.add j) = some u) {k : Nat} (hk : k < L.length) :
    ∀ j v, (doneC (L.getD k default).1 (L.getD k default).2)[j]? = some v → W.cell? ⟨g, o + k * 10 + j, none⟩ = some v := by
  intro j v hv
  have hj : j < 10 := by
    have := (Array.getElem?_eq_some_iff.1 hv).1
    simpa [doneC] using this
  have h1 := h _ rfl (k * 10 + j) v (by rw [flat_at dC 10 default dC_len L k j hk hj]; unfold dC; rw [Array.getElem?_toList]; exact hv)
  rw [Addr.add_lit, ← Nat.add_assoc] at h1
  exact h1
def fNext (F : Int → Option DP) (p : DP) : Int → Option DP := if p.1.write = true then pSet F p.1.block p else F
theorem mk_step' {k : Nat} {LO : List DP} {F : Int → Option DP} {p : DP} {m : Nat} {tt : Int} {v : Value} {cur : List Int} (h : MkInv k (LO.map Prod.fst) (curF F)) (hm : m < 40) (ht : tt = 10 * ((k : Int) + 1) + m ∨ (tt = -1 ∧ p.1.write = true)) (hc : curF (fNext F p) p.1.block = cur) :
    MkInv (k + 1) ((LO ++ [((mkO p.1 cur (10 * ((k : Int) + 1) - m) tt, v) : DP)]).map Prod.fst) (curF (fNext F p)) := by
  subst hc
  exact mk_step h hm ht
def CutA (F : Int → Option DP) (mb : Nat) (W wx : World) : Prop := MapI wx mb (pV F) ∧ Only (Just mb) W wx
def BytOk (w : World) (F : Nat → Prop) (v : Value) (l : List Int) : Prop := ∃ dA dc, v = .slice dA l.length dc ∧ Byt w v l ∧ (0 < l.length → ∀ k, ownB v k → k < w.heap.size ∧ ¬ F k)
theorem fNext_mem {F : Int → Option DP} {p : DP} {L : List DP} (hF : ∀ b q, F b = some q → q ∈ L) (hp : p ∈ L) : ∀ b q, fNext F p b = some q → q ∈ L := by
  intro b q h
  unfold fNext at h
  split at h
  · unfold pSet at h
    split at h
    · injection h with h; rw [← h]; exact hp
    · exact hF b q h
  · exact hF b q h
theorem wpList_build' {P : Program} {ops : Array Oper} {rest : List Oper} {o : Oper} {a : Act} {w : World} {Q : Exit → Act → World → Prop} (hgd : o.guard = none) (t : TypeId) (parts : Array (Nat × Operand)) (ho : o.op = .build t parts)
    (pv : List (Nat × Value)) (cells : Array Value) (hf : (parts.map fun (i, x) => (i, a.eval x)).toList = pv) (hb : P.built t pv = some cells) (h : wpList P ops Q rest (a.put o.dst (.agg cells)) w) : wpList P ops Q (o :: rest) a w :=
  wpList_plain hgd fun K hK => Go.wp_build t parts ho (by rw [hf, hb]; rfl) (by rw [hf, hb]; exact hK _ _ h)
theorem built_mk (od : DoneR) (cur : List Int) (f t : Int) (A : Option Addr) (n c : Nat) : Try.prog.built 33 [(3, .bool od.write), (4, .int .i64 od.block), (5, .slice A n c), (7, .int .i64 f), (8, .int .i64 t)] = some (doneC (mkO od cur f t) (.slice A n c)) := by kernel_rfl
theorem lawI : Try.prog.underlying 34 = some (.map 3 31) := Try.underlying34
theorem look_cur {W wc : World} {mb : Nat} {F1 : Int → Option DP} {L : List DP} {blk : Int} {ov : Value} (hm : MapI wc mb (pV F1)) (hF : ∀ b p, F1 b = some p → p ∈ L) (hL : ∀ p ∈ L, DataOk W (fun k => W.heap.size ≤ k) p) (ho : Only Non W wc)
    (hv : ∀ k, ownB ov k → W.heap.size ≤ k) (hb : I64 blk) :
    ∃ vA n c, (Instr.lookup 34 (.map (some mb)) (.int .i64 blk) false).run Try.prog wc = .ok (.slice vA n c) wc ∧ (vA = none → curF F1 blk = [0]) ∧ (vA ≠ none → BytOk wc (ownB ov) (.slice vA n c) (curF F1 blk)) := by
  have hl := run_look_i (P := Try.prog) hm lawI Try.underlying3 (z := .slice none 0 0) (by kernel_rfl) hb
  cases h : F1 blk with
  | none =>
    have e : pV F1 blk = none := by unfold pV; rw [h]; rfl
    rw [e] at hl
    exact ⟨none, 0, 0, hl, fun _ => by unfold curF; rw [h]; rfl, fun h => absurd rfl h⟩
  | some p =>
    have e : pV F1 blk = some p.2 := by unfold pV; rw [h]; rfl
    rw [e] at hl
    obtain ⟨dA, dc, e2, h1, h2⟩ := hL p (hF _ _ h)
    refine ⟨dA, p.1.data.length, dc, by rw [← e2]; exact hl, fun e3 => ?_, fun e3 => ?_⟩
    · unfold curF; rw [h]
      show (if isNilS p.2 = true then [0] else p.1.data) = [0]
      rw [e2, e3]; rfl
    · have hc : curF F1 blk = p.1.data := by
        unfold curF; rw [h]
        show (if isNilS p.2 = true then [0] else p.1.data) = _
        rw [if_neg]
        rw [e2]
        cases dA with
        | none => exact absurd rfl e3
        | some a => simp [isNilS]
      rw [hc, ← e2]
      exact ⟨dA, dc, e2, h1.only ho fun _ _ => id, fun h0 k hk => ⟨Nat.lt_of_lt_of_le (h2 h0 k hk).1 ho.size, fun hf => (h2 h0 k hk).2 (hv k hf)⟩⟩
section
set_option maxHeartbeats 4000000
set_option maxRecDepth 100000
theorem histMakes_walk (A : Option Addr) (c : Nat) (l : List DoneR) (S : Option Addr) (cs : Nat) (st : List Int) (w : World) (h : DonesAt w A l.length c l) (hs : Byt w (.slice S st.length cs) st) (hst : IsB st) (hI : ∀ o ∈ l, I64 o.block) :
    Calls Try.prog 4 #[.slice A l.length c, .slice S st.length cs] w (Rb true w) := by
  have hcap := h.cap
  have hmax := h.max
  unfold maxLen at hmax
  have hsl := hs.len.2
  have H := Lib.hid h
  have HS := Lib.hid hs
  have HST := Lib.hid hst
  have HI := Lib.hid hI
  clear h hs hst hI
  have HK := Lib.hid (wakes_any w)
  go_enter Try.func4, Try.ntmps4
  go_wp2_with fail
  refine HK.out.mono ?_
  rintro e W1 ⟨rfl, ho1⟩
  have HO1 := Lib.hid ho1
  have H1 := Lib.hid (H.out.keep ho1)
  have HS1 := Lib.hid (HS.out.only ho1 fun _ _ => id)
  have HL := long_any A c l 25 W1 H1.out
  clear ho1 HK
  by_cases hlong : longD l 25 = true
  · rw [hlong] at HL
    have HL := Lib.hid HL
    clear hlong
    go_wp2_with fail
    refine HL.out.mono ?_
    rintro e W2 ⟨rfl, rfl⟩
    go_wp2
    go_ret
    exact ⟨rfl, HO1.out⟩
  · have hl25 : l.length ≤ 25 := by
      unfold longD at hlong
      simp only [Bool.or_eq_true, decide_eq_true_eq, not_or] at hlong
      omega
    have hlf : longD l 25 = false := by simpa using hlong
    rw [hlf] at HL
    have HL := Lib.hid HL
    clear hlong hlf
    by_cases hs1 : 100 < st.length
    · have hsb : decide ((100 : Int) < (st.length : Int)) = true := by simp; omega
      go_wp2_with fail
      refine HL.out.mono ?_
      rintro e W2 ⟨rfl, rfl⟩
      go_wp2
      go_ret
      exact ⟨rfl, HO1.out⟩
    · have hsb : decide ((100 : Int) < (st.length : Int)) = false := by simp; omega
      obtain ⟨L, hL, hLd, hLc⟩ := dones_pairs H1.out
      have hLl : L.length = l.length := by rw [← hL, List.length_map]
      have hA0 : ∀ k, k < L.length → ∃ g o, A = some ⟨g, o, none⟩ := fun k hk => by
        obtain ⟨g, o, dA, dc, eA, _⟩ := H1.out.at_ k (by omega)
        exact ⟨g, o, eA⟩
      have hLI : ∀ p ∈ L, I64 p.1.block := fun p hp => HI.out p.1 (by rw [← hL]; exact List.mem_map.2 ⟨p, hp, rfl⟩)
      rw [← hLl] at hl25 hcap HL ⊢
      have HLd := Lib.hid hLd
      have HLc := Lib.hid hLc
      have HLI := Lib.hid hLI
      have HA0 := Lib.hid hA0
      clear hL hLl hLd hLc hA0 hLI H H1 HI HS
      have hmk := @run_makeMap Try.prog
      go_wp2_with fail
      refine HL.out.mono ?_
      rintro e W2 ⟨rfl, rfl⟩
      clear HL
      go_wp2_with fail
      clear hmk
      go_loopg [6, 27] L.length (fun n ov i wr => MmRel L W1.heap.size W1 n ov i wr)
      case atStart => exact ⟨0, [], fun _ => none, rfl, rfl, OwnD.nil _ _, MapI.made W1, MkInv.nil, fun _ _ h => (by cases h), fun h => (by cases h), (Only.refl _ _).alloc _⟩
      case round =>
        obtain ⟨k, LO, F, hk, rfl, hown, hmap, hinv, hF, hnm, ho⟩ := hrel
        have HOW := Lib.hid hown
        have HMAP := Lib.hid hmap
        have HINV := Lib.hid hinv
        have HF := Lib.hid hF
        have HNM := Lib.hid hnm
        have HO := Lib.hid ho
        have Hk0 := Lib.hid hk
        clear hown hmap hinv hF hnm ho
        by_cases hlt : k < L.length
        · obtain ⟨g, o, eA⟩ := HA0.out k hlt
          subst eA
          have hki : (k : Int) < L.length := by omega
          have hk25 : (k : Int) ≤ 25 := by omega
          have hmem : L.getD k default ∈ L := by simp [List.getD, hlt]
          have hcells := fun j v hv => HO.out.cell (pair_cells HLc.out hlt j v hv) id
          obtain ⟨dA, dc, e2, hby, hdl⟩ := HLd.out _ hmem
          have hPI := HLI.out _ hmem
          generalize L.getD k default = p at *
          obtain ⟨od, pv⟩ := p
          dsimp only at e2
          subst e2
          obtain ⟨d0, d1, d2, d3, d4, d5, d6, d7, d8, d9⟩ := tenAt hcells
          have Hby := Lib.hid (hby.only HO.out fun _ _ => id)
          have Hdl := Lib.hid hdl
          have HMEM := Lib.hid hmem
          have HPI := Lib.hid hPI
          have Hlt := Lib.hid hlt
          have Hk := Lib.hid hk
          clear hcells hby hdl hmem hPI hlt hk
          dsimp only at Hby Hdl HPI
          go_upto_region 10 with (refine wpList_store_row rfl 33 _ _ rfl wr.heap.size (doneC od (.slice dA od.data.length dc)) rfl rfl 33 _ (Box.fresh wr 33 zD) (by kernel_rfl) rfl (done_one od dA od.data.length dc) ?_)
          have ho5 : Only Non wr ((wr.alloc (.cells zD 33)).setRow wr.heap.size (doneC od (.slice dA od.data.length dc))) := ((Only.refl Non wr).alloc _).setRow' (.inr (Nat.le_refl _)) _
          have HY := Lib.hid ((Box.fresh wr 33 zD).setRow' (doneC od (.slice dA od.data.length dc)))
          change Code.wp _ _ _ _ ((wr.alloc (.cells zD 33)).setRow wr.heap.size (doneC od (.slice dA od.data.length dc)))
          generalize (wr.alloc (.cells zD 33)).setRow wr.heap.size (doneC od (.slice dA od.data.length dc)) = W5 at *
          have HO5 := Lib.hid (HO.out.trans ho5)
          have Hby5 := Lib.hid (Hby.out.only ho5 fun _ _ => id)
          have HOW5 := Lib.hid (HOW.out.keep ho5)
          have HMAP5 := Lib.hid (HMAP.out.keep ho5)
          have HyB := Lib.hid (show W1.heap.size < wr.heap.size from HMAP.out.lt)
          clear ho5 d0 d1 d2 d3 d4 d5 d6 d7 d8 d9 HOW HMAP
          generalize wr.heap.size = yb at *
          have y3 : W5.cell? ⟨yb, 3, none⟩ = some (.bool od.write) := HY.out.cellAt rfl
          have y4 : W5.cell? ⟨yb, 4, none⟩ = some (.int .i64 od.block) := HY.out.cellAt rfl
          have y5 : W5.cell? ⟨yb, 5, none⟩ = some (.slice dA od.data.length dc) := HY.out.cellAt rfl
          go_upto_if 36 with fail
          go_cut [] (fun wx => CutA (fNext F (od, .slice dA od.data.length dc)) W1.heap.size W5 wx)
          case first =>
            by_cases hw : od.write = true
            · rw [hw]
              have HW := Lib.hid hw
              clear hw
              go_wp2_with (at_mapUpdate; refine wpList_put_i W5 rfl _ _ _ rfl lawI Try.underlying3 W1.heap.size (pV F) od.block (.slice dA od.data.length dc) rfl rfl rfl HMAP5.out HPI.out ?_; intro w6 hm6 ho6)
              go_meet
              case rel => exact ⟨by unfold fNext; rw [if_pos HW.out, ← pV_set]; exact hm6, ho6⟩
            · have hw : od.write = false := by simpa using hw
              rw [hw]
              have HW := Lib.hid hw
              clear hw
              go_wp2
              go_meet
              case rel => exact ⟨by unfold fNext; rw [if_neg (by rw [HW.out]; simp)]; exact HMAP5.out, Only.refl _ _⟩
          case rest =>
            obtain ⟨hmA, hoA⟩ := hcut
            have HMAPA := Lib.hid hmA
            have HoA := Lib.hid hoA
            clear hmA hoA
            obtain ⟨wa, ea⟩ : ∃ wa, wa = wc := ⟨_, rfl⟩
            subst ea
            have hne : ¬ Just W1.heap.size yb := fun e => by have := HyB.out; have h2 : yb = W1.heap.size := e; omega
            have HYa := Lib.hid (HoA.out.box HY.out hne)
            have HOa := Lib.hid (HO5.out.trans' HoA.out fun k hk => .inr (Nat.le_of_eq (show k = W1.heap.size from hk).symm))
            have HOWa := Lib.hid (HOW5.out.mapped HMAP5.out HoA.out HNM.out)
            have hlo : ∀ k, ownB u6 k → W1.heap.size ≤ k := fun k hk => (World.ownsRow.lt HOWa.out.1 k hk).1
            have HFa := Lib.hid (fNext_mem (p := (od, .slice dA od.data.length dc)) HF.out HMEM.out)
            obtain ⟨vA, vn, vc, hlk, hnil, hsome⟩ := look_cur HMAPA.out HFa.out HLd.out HOa.out hlo HPI.out
            have Hnil := Lib.hid hnil
            have Hsome := Lib.hid hsome
            have Hlo := Lib.hid hlo
            clear hne hnil hsome hlo y3 y4 y5 HoA HY HOW5 HO5
            have y3 : wa.cell? ⟨yb, 3, none⟩ = some (.bool od.write) := HYa.out.cellAt rfl
            have y4 : wa.cell? ⟨yb, 4, none⟩ = some (.int .i64 od.block) := HYa.out.cellAt rfl
            have he := fun w => Lib.run_eql_slice_nil (P := Try.prog) (w := w)
            have hul := Try.underlying31
            go_upto_if 47 with fail
            generalize hcu : curF (fNext F (od, .slice dA od.data.length dc)) od.block = cur at *
            have HCU := Lib.hid hcu
            clear hcu
            go_cut [10] (fun s10 wx => BytOk wx (ownB u6) s10 cur ∧ Only Non wa wx)
            case first =>
              cases vA with
              | none =>
                have hcr := Hnil.out rfl
                have HCR := Lib.hid hcr
                clear hcr
                go_wp2
                go_meet
                case rel =>
                  rw [HCR.out]
                  refine ⟨⟨some ⟨wa.heap.size, 0, none⟩, 1, rfl, one_byt (Box.fresh wa 5 #[.int .u8 0]), fun _ k hk => ?_⟩, (Only.refl _ _).alloc _⟩
                  obtain rfl := ownB_slice.1 hk
                  exact ⟨by rw [World.size_alloc]; omega, fun hv => by have := (World.ownsRow.lt HOWa.out.1 _ hv).2; omega⟩
              | some a =>
                go_wp2
                go_meet
                case rel => exact ⟨Hsome.out (by simp), Only.refl _ _⟩
            case rest =>
              obtain ⟨⟨bA, bc, rfl, hbb, hbo⟩, hob⟩ := hcut
              obtain ⟨wb, eb⟩ : ∃ wb, wb = wc := ⟨_, rfl⟩
              subst eb
              have HBB := Lib.hid hbb
              have HBO := Lib.hid hbo
              have HYb := Lib.hid (hob.box HYa.out id)
              have HOb := Lib.hid (HOa.out.trans hob)
              have HOWb := Lib.hid (HOWa.out.keep hob)
              have HMAPb := Lib.hid (HMAPA.out.keep hob)
              clear hbb hbo hob y3 y4 HYa HOWa HOa HMAPA
              go_upto_if 52 with fail
              go_cut [11] (fun s11 wx => ∃ m : Nat, m < 40 ∧ s11 = .int .i64 m ∧ wx = wb)
              case first =>
                by_cases hks : k < st.length
                · obtain ⟨g3, o3, eS, hcs⟩ := (HS1.out.only HOb.out fun _ _ => id).cellAt hks
                  subst eS
                  have hx := HST.out (st.getD k 0) (by simp [List.getD, hks])
                  generalize st.getD k 0 = x at *
                  obtain ⟨hx0, hx1⟩ := hx
                  obtain ⟨xn, rfl⟩ := Int.eq_ofNat_of_zero_le hx0
                  have hxn : xn ≤ 255 := by omega
                  have hksi : (k : Int) < st.length := by omega
                  go_wp2
                  go_meet
                  case rel => exact ⟨xn % 40, by omega, by first | rfl | simp, rfl⟩
                · go_wp2
                  go_meet
                  case rel => exact ⟨0, by omega, rfl, rfl⟩
              case rest =>
                obtain ⟨m, hm, rfl, rfl⟩ := hcut
                have y3 : wc.cell? ⟨yb, 3, none⟩ = some (.bool od.write) := HYb.out.cellAt rfl
                have y4 : wc.cell? ⟨yb, 4, none⟩ = some (.int .i64 od.block) := HYb.out.cellAt rfl
                clear he hul hlk
                have hw1 : IntKind.i64.wrap (10 * ((k : Int) + 1) - m) = 10 * ((k : Int) + 1) - m := by rw [IntKind.wrap_i64]; omega
                have hw2 : IntKind.i64.wrap (10 * ((k : Int) + 1) + m) = 10 * ((k : Int) + 1) + m := by rw [IntKind.wrap_i64]; omega
                go_upto_region 19 with fail
                refine wp_region_lit ?_
                iterate 11
                  refine wpList_step fun K0 hK0 => ?_
                  go_simp
                  refine hK0 _ _ ?_
                  clear hK0
                  try simp only [Act.put, List.getElem_toArray, List.getElem_cons_succ, List.getElem_cons_zero, List.setIfInBounds_toArray, List.set_cons_zero, List.set_cons_succ]
                refine wpList_build' (o := ⟨some 70, _, _, _, _, _⟩) rfl _ _ rfl [(3, .bool od.write), (4, .int .i64 od.block), (5, .slice bA cur.length bc), (7, .int .i64 (10 * ((k : Int) + 1) - m)), (8, .int .i64 (10 * ((k : Int) + 1) + m))] _ ?_ (built_mk od cur (10 * ((k : Int) + 1) - m) (10 * ((k : Int) + 1) + m) bA cur.length bc) ?_
                · simp [Act.eval]
                refine wpList_step fun K0 hK0 => ?_
                go_simp
                refine hK0 _ _ ?_
                clear hK0
                try simp only [Act.put, List.getElem_toArray, List.getElem_cons_succ, List.getElem_cons_zero, List.setIfInBounds_toArray, List.set_cons_zero, List.set_cons_succ]
                refine wpList_store_row rfl 33 _ _ rfl wc.heap.size (doneC (mkO od cur (10 * ((k : Int) + 1) - m) (10 * ((k : Int) + 1) + m)) (.slice bA cur.length bc)) rfl rfl 33 _ (Box.fresh wc 33 zD) (by kernel_rfl) rfl (done_one _ bA cur.length bc) ?_
                refine wpList_nil ?_
                try simp only [Act.put, List.getElem_toArray, List.getElem_cons_succ, List.getElem_cons_zero, List.setIfInBounds_toArray, List.set_cons_zero, List.set_cons_succ]
                have hoc : Only Non wc ((wc.alloc (.cells zD 33)).setRow wc.heap.size (doneC (mkO od cur (10 * ((k : Int) + 1) - m) (10 * ((k : Int) + 1) + m)) (.slice bA cur.length bc))) := ((Only.refl Non wc).alloc _).setRow' (.inr (Nat.le_refl _)) _
                have HX := Lib.hid ((Box.fresh wc 33 zD).setRow' (doneC (mkO od cur (10 * ((k : Int) + 1) - m) (10 * ((k : Int) + 1) + m)) (.slice bA cur.length bc)))
                change Exit.then _ _ _ _ ((wc.alloc (.cells zD 33)).setRow wc.heap.size (doneC (mkO od cur (10 * ((k : Int) + 1) - m) (10 * ((k : Int) + 1) + m)) (.slice bA cur.length bc)))
                generalize (wc.alloc (.cells zD 33)).setRow wc.heap.size (doneC (mkO od cur (10 * ((k : Int) + 1) - m) (10 * ((k : Int) + 1) + m)) (.slice bA cur.length bc)) = W7 at *
                have HYd := Lib.hid (hoc.box HYb.out id)
                have HOd := Lib.hid (HOb.out.trans hoc)
                have HOWd := Lib.hid (HOWb.out.keep hoc)
                have HMAPd := Lib.hid (HMAPb.out.keep hoc)
                have HBBd := Lib.hid (HBB.out.only hoc fun _ _ => id)
                have HBOd := Lib.hid (show 0 < cur.length → ∀ k, ownB (.slice bA cur.length bc) k → k < W7.heap.size ∧ ¬ ownB u6 k from fun h0 k hk => ⟨Nat.lt_of_lt_of_le (HBO.out h0 k hk).1 hoc.size, (HBO.out h0 k hk).2⟩)
                have HXn := Lib.hid (show ¬ ownB u6 wc.heap.size from fun hv => by have := (World.ownsRow.lt HOWb.out.1 _ hv).2; omega)
                have HXm := Lib.hid (show wc.heap.size ≠ W1.heap.size from fun e => by have := HMAPb.out.lt; omega)
                have HXb := Lib.hid (show 0 < cur.length → ¬ ownB (.slice bA cur.length bc) wc.heap.size from fun h0 hv => by have := (HBO.out h0 _ hv).1; omega)
                have HXd := Lib.hid (show ∀ p ∈ LO, 0 < p.1.data.length → ¬ ownB p.2 wc.heap.size from fun p hp h0 hv => by obtain ⟨_, _, _, _, hn⟩ := HOWb.out.2 p hp; have := (hn h0 _ hv).1; omega)
                have HXy := Lib.hid (show yb ≠ wc.heap.size from fun e => by have := HYb.out.lt; omega)
                have HXW := Lib.hid (show W1.heap.size ≤ wc.heap.size from HOb.out.size)
                clear hoc y3 y4 HYb HOb HOWb HMAPb HBB HBO
                generalize wc.heap.size = xb at *
                have y3 : W7.cell? ⟨yb, 3, none⟩ = some (.bool od.write) := HYd.out.cellAt rfl
                have y9 : W7.cell? ⟨yb, 9, none⟩ = some (.bool od.cut) := HYd.out.cellAt rfl
                go_upto_region 20 with fail
                go_cut [76] (fun s76 wx => ∃ b : Bool, s76 = .bool b ∧ (b = true → od.write = true) ∧ wx = W7)
                case first =>
                  by_cases hc : od.cut = true
                  · rw [hc] at y9
                    clear hc
                    go_wp2
                    go_meet
                    case rel => exact ⟨_, rfl, id, rfl⟩
                  · have hc : od.cut = false := by simpa using hc
                    rw [hc] at y9
                    clear hc
                    go_wp2
                    go_meet
                    case rel => exact ⟨_, rfl, fun h => (by cases h), rfl⟩
                case rest =>
                  obtain ⟨b, rfl, hbw, rfl⟩ := hcut
                  have HBW := Lib.hid hbw
                  clear hbw y3 y9
                  have x8 : wc.cell? ⟨xb, 8, none⟩ = some (.int .i64 (10 * ((k : Int) + 1) + m)) := HX.out.cellAt rfl
                  have HXf := HX.out.free 8
                  go_upto_if 76 with fail
                  go_cut [] (fun wx => ∃ tt : Int, (tt = 10 * ((k : Int) + 1) + m ∨ (tt = -1 ∧ od.write = true)) ∧ Box wx xb 33 (doneC (mkO od cur (10 * ((k : Int) + 1) - m) tt) (.slice bA cur.length bc)) ∧ Only (Just xb) wc wx)
                  case first =>
                    cases b with
                    | true =>
                      have hw := HBW.out rfl
                      have HW := Lib.hid hw
                      clear hw
                      go_wp2
                      go_meet
                      case rel => exact ⟨-1, .inr ⟨rfl, HW.out⟩, HX.out.store 8 (.int .i64 (-1)), Only.setCell (p := ⟨xb, 8, none⟩) (Only.refl (Just xb) wc) (.inl (show Just xb xb from rfl)) _⟩
                    | false =>
                      go_wp2
                      go_meet
                      case rel => exact ⟨_, .inl rfl, HX.out, Only.refl _ _⟩
                  case rest =>
                    obtain ⟨tt, htt, hxx, hox⟩ := hcut
                    obtain ⟨wd, ed⟩ : ∃ wd, wd = wc := ⟨_, rfl⟩
                    subst ed
                    have HTT := Lib.hid htt
                    have HOe := Lib.hid (HOd.out.trans' hox fun k hk => .inr (by have h2 : k = xb := hk; have := HXW.out; omega))
                    have HOWe := Lib.hid (HOWd.out.far hox (fun k hk e => HXn.out (show ownB u6 xb from (show k = xb from e) ▸ hk)) fun p hp h0 k hk e => HXd.out p hp h0 (show ownB p.2 xb from (show k = xb from e) ▸ hk))
                    have HMAPe := Lib.hid (HMAPd.out.only hox fun e => HXm.out (show W1.heap.size = xb from e).symm)
                    have hbe : Byt wd (.slice bA cur.length bc) cur := HBBd.out.keep hox fun h0 k hk _ e => HXb.out h0 (show ownB (.slice bA cur.length bc) xb from (show k = xb from e) ▸ hk)
                    have HBOe := Lib.hid (show 0 < cur.length → ∀ k, ownB (.slice bA cur.length bc) k → k < wd.heap.size ∧ ¬ ownB u6 k from fun h0 k hk => ⟨Nat.lt_of_lt_of_le (HBOd.out h0 k hk).1 hox.size, (HBOd.out h0 k hk).2⟩)
                    have hof : Only Non wd (wd.alloc (.cells (doneC (mkO od cur (10 * ((k : Int) + 1) - m) tt) (.slice bA cur.length bc)) 33)) := (Only.refl _ _).alloc _
                    have Hof := Lib.hid hof
                    have HOWf := Lib.hid (HOWe.out.keep hof)
                    have HBX := Lib.hid (Box.fresh wd 33 (doneC (mkO od cur (10 * ((k : Int) + 1) - m) tt) (.slice bA cur.length bc)))
                    have Hdat := Lib.hid (show DataOk (wd.alloc (.cells (doneC (mkO od cur (10 * ((k : Int) + 1) - m) tt) (.slice bA cur.length bc)) 33)) (ownB u6) (mkO od cur (10 * ((k : Int) + 1) - m) tt, .slice bA cur.length bc) from
                      ⟨bA, bc, rfl, hbe.only hof fun _ _ => id, fun h0 k hk => ⟨Nat.lt_of_lt_of_le (HBOe.out h0 k hk).1 hof.size, (HBOe.out h0 k hk).2⟩⟩)
                    have HLen := Lib.hid (show LO.length ≤ 25 by have h1 := HINV.out.len; rw [List.length_map] at h1; have := Hlt.out; omega)
                    have x0 : wd.cell? ⟨xb, 0, none⟩ = some (.int .i64 0) := Box.cellAt hxx rfl
                    have x1 : wd.cell? ⟨xb, 1, none⟩ = some (.int .i64 0) := Box.cellAt hxx rfl
                    have x2 : wd.cell? ⟨xb, 2, none⟩ = some (.int .i64 0) := Box.cellAt hxx rfl
                    have x3 : wd.cell? ⟨xb, 3, none⟩ = some (.bool od.write) := Box.cellAt hxx rfl
                    have x4 : wd.cell? ⟨xb, 4, none⟩ = some (.int .i64 od.block) := Box.cellAt hxx rfl
                    have x5 : wd.cell? ⟨xb, 5, none⟩ = some (.slice bA cur.length bc) := Box.cellAt hxx rfl
                    have x6 : wd.cell? ⟨xb, 6, none⟩ = some (.int .i64 0) := Box.cellAt hxx rfl
                    have x7 : wd.cell? ⟨xb, 7, none⟩ = some (.int .i64 (10 * ((k : Int) + 1) - m)) := Box.cellAt hxx rfl
                    have x8 : wd.cell? ⟨xb, 8, none⟩ = some (.int .i64 tt) := Box.cellAt hxx rfl
                    have x9 : wd.cell? ⟨xb, 9, none⟩ = some (.bool false) := Box.cellAt hxx rfl
                    clear htt hxx hox HX HXf hbe hof HOd HOWd HMAPd HBBd HBOd HYd hw1 hw2
                    go_wp2_with (at_builtin; refine wpList_append_dones (w := wd.alloc (.cells (doneC (mkO od cur (10 * ((k : Int) + 1) - m) tt) (.slice bA cur.length bc)) 33)) rfl _ _ rfl W1.heap.size u6 LO rfl HOWf.out (some ⟨wd.heap.size, 0, none⟩) 1 [(mkO od cur (10 * ((k : Int) + 1) - m) tt, .slice bA cur.length bc)] rfl (fun e => (by cases e)) (one_cells HBX.out) (fun p hp => (by rw [List.mem_singleton.1 hp]; exact Hdat.out)) (by have := HLen.out; simp; omega) (by have := HOe.out.size; rw [World.size_alloc]; omega) ?_; intro v9 W9 hown9 ho9 hnew9; have HOW9 := Lib.hid hown9; have HO9 := Lib.hid ho9; have HNEW9 := Lib.hid hnew9; clear hown9 ho9 hnew9)
                    obtain ⟨gk', rfl⟩ : ∃ gk', gk = gk' + 1 := ⟨gk - 1, by have := Hk.out; have := Hlt.out; omega⟩
                    go_roundg gk'
                    case measure => exact Nat.lt_succ_self _
                    case rel =>
                      refine ⟨k + 1, LO ++ [(mkO od cur (10 * ((k : Int) + 1) - m) tt, .slice bA cur.length bc)], fNext F (od, .slice dA od.data.length dc), by have := Hk.out; omega, by simp, HOW9.out, (HMAPe.out.keep Hof.out).only HO9.out HNM.out, ?_, HFa.out, fun h => ?_, (HOe.out.trans Hof.out).trans' HO9.out fun k hk => .inr (Hlo.out k hk)⟩
                      · exact mk_step' (p := (od, .slice dA od.data.length dc)) (v := .slice bA cur.length bc) HINV.out hm HTT.out HCU.out
                      · rcases HNEW9.out _ h with h | h
                        · exact HNM.out h
                        · have := HMAPe.out.lt
                          rw [World.size_alloc] at h
                          omega
        · have hki : ¬ ((k : Int) < L.length) := by omega
          obtain ⟨A7, c7, e7, hda7⟩ := HOW.out.at_
          have hlin := HINV.out.lin
          have hlen := HINV.out.len
          have HQ := linear_any A7 c7 (LO.map Prod.fst) 1 wr hda7 (by have := Hk0.out; omega) (by decide) (by decide)
          rw [show LO.length = (LO.map Prod.fst).length from (List.length_map _).symm] at e7
          have HN := Lib.hid hlin
          generalize (LO.map Prod.fst).length = n7 at *
          subst e7
          have HOx := Lib.hid (HO1.out.trans HO.out)
          have HQ := Lib.hid HQ
          clear HOW HMAP HF HNM hda7 hlin hlen HINV hlt hk
          go_wp2_with fail
          refine HQ.out.mono ?_
          rintro e W8 ⟨rfl, ho8⟩
          have HO8 := Lib.hid (HOx.out.trans ho8)
          clear ho8 HQ
          have hn := HN.out
          generalize hR : linD (LO.map Prod.fst) 1 = R at *
          have HR := Lib.hid hR
          clear HN hR
          rcases hn with hn | hn
          · obtain ⟨r1, r2⟩ := R
            dsimp only at hn
            subst hn
            go_wp2
            go_ret
            exact ⟨rfl, HO8.out⟩
          · subst hn
            go_wp2
            go_ret
            exact ⟨rfl, HO8.out⟩
end
end Go.Proofs.Ythfafegfooibmaa
