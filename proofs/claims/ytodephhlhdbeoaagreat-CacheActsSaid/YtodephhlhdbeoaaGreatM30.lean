/- Several texts, one behind the other: Rcg. -/
import Derived.Test.YtodephhlhdbeoaaGreatM28
namespace Go.Proofs.YtodephhlhdbeoaaGreat
open Go.RowKit Go.ChangeShapes Go.WideShapes
set_option linter.unusedVariables false
set_option linter.unusedSimpArgs false
theorem slInfo : (Tryz.prog.info? 43).map (fun i => (i.zero, i.size, i.bytes)) = some (some (.slice none 0 0), 1, 24) := by kernel_rfl
def nwC (P : MqP) (v ov ev : Value) : Array Value := #[.int .i64 P.cap, .int .i64 P.life, .int .i64 P.ghost, v, .slice none 0 0, ov, ev, .int .i64 0]
theorem made64 : madeCells #[.int .i64 0] 64 = fiC (fun _ => 0) := by kernel_rfl
theorem run_make64 (w : World) : (Instr.makeSlice 43 (.int .i64 64) (.int .i64 64)).run Tryz.prog w = .ok (.slice (some ⟨w.heap.size, 0, none⟩) 64 64) (w.alloc (.cells (fiC (fun _ => 0)) 3)) := by
  obtain ⟨i, hi, hzz⟩ := Option.map_eq_some_iff.1 intInfo
  simp only [Prod.mk.injEq] at hzz
  obtain ⟨hz, hs, hb⟩ := hzz
  have := run_make (P := Tryz.prog) w 43 3 i _ Tryz.underlying43 hi hz .i64 .i64 64 64 (by omega) (Int.le_refl _) (by rw [hb]; omega) (by omega)
  rw [hs] at this
  exact this.trans (by kernel_rfl)
def NwRel (P : MqP) (w : World) (mb : Nat) (i : Value) (wr : World) : Prop :=
  ∃ (k : Nat) (v : Value), k ≤ P.q ∧ i = .int .i64 k ∧ Box wr mb 250 (nwC P v (.slice none 0 0) (.slice none 0 0)) ∧ Row 43 wr v (List.replicate k (.slice none 0 0)) ∧ (∀ g, ownB v g → w.heap.size ≤ g) ∧ Only Non w wr
section
set_option maxHeartbeats 4000000
set_option maxRecDepth 100000
def RmqNewPost (P : MqP) (w : World) (e : Ending) (w' : World) : Prop := ∃ j : RmqJ, e = .returned (.pointer (some ⟨j.mb, 0, none⟩)) ∧ RMq j P ⟨fun _ => [], 0, fun _ => 0, fun _ => 0⟩ w' ∧ (∀ k, RF j k → w.heap.size ≤ k) ∧ Only Non w w'
theorem rmq_new (P : MqP) (hq1 : 1 ≤ P.q) (hq8 : P.q ≤ 8) (w : World) :
    Calls Tryz.prog 90 #[.int .i64 P.cap, .int .i64 P.q, .int .i64 P.life, .int .i64 P.ghost] w (RmqNewPost P w) := by
  have HB := Lib.hid (Box.fresh w 250 (nwC P (.slice none 0 0) (.slice none 0 0) (.slice none 0 0)))
  have HO := Lib.hid ((Only.refl Non w).alloc (.cells (nwC P (.slice none 0 0) (.slice none 0 0) (.slice none 0 0)) 250))
  go_enter Tryz.func90, Tryz.ntmps90
  go_upto_region 3 with fail
  obtain ⟨mb, hmb⟩ : ∃ mb, mb = w.heap.size := ⟨_, rfl⟩
  have HMB := Lib.hid (show w.heap.size ≤ mb from Nat.le_of_eq hmb.symm)
  rw [← hmb] at HB ⊢
  clear hmb
  change Code.wp _ _ _ _ (w.alloc (.cells (nwC P (.slice none 0 0) (.slice none 0 0) (.slice none 0 0)) 250))
  generalize w.alloc (.cells (nwC P (.slice none 0 0) (.slice none 0 0) (.slice none 0 0)) 250) = W1 at *
  go_loopw [10] (fun iv wr => NwRel P w mb iv wr) (fun iv _ => P.q - (intOf iv).toNat)
  case atStart => exact ⟨0, _, Nat.zero_le _, rfl, HB.out, Row.nil_ _ _, fun g hg => (ownB_none hg).elim, HO.out⟩
  case round =>
    clear HB HO
    obtain ⟨k, v, hk, rfl, hb, hr, hf, ho⟩ := hrel
    have HB := Lib.hid hb
    have HO := Lib.hid ho
    have HR := Lib.hid hr
    have HF := Lib.hid hf
    have x3 : wr.cell? ⟨mb, 3, none⟩ = some v := hb.cellAt rfl
    have f3 : wr.frozen? ⟨mb, 3, none⟩ = false := hb.free 3
    clear hb hr hf ho
    by_cases hlt : k < P.q
    · have hlti : (k : Int) < P.q := by omega
      have HLT := Lib.hid hlt
      have hkk : k < 8 := by omega
      clear hlt hk
      go_wp2_with (at_builtin; refine wpList_append_row _ rfl (.tmp 25) (.tmp 26) 246 43 rfl slInfo rfl Tryz.underlying246 v (List.replicate k (.slice none 0 0)) rfl (HR.out.only ((Only.refl Non wr).alloc _) fun _ _ => id) (some ⟨wr.heap.size, 0, none⟩) 1 1 [.slice none 0 0] rfl rfl (one_src wr _ _) (by simp [Value.oneCell']) (by simp [maxLen]; omega) (by simp; omega) ?_; intro v2 w2 hr2 ho2 hn2 _; obtain ⟨A2, c2, e2, _, _⟩ := hr2.shape; rw [show (List.replicate k (Value.slice none 0 0) ++ [Value.slice none 0 0]).length = k + 1 by simp] at e2; subst e2; have HB2 := Lib.hid (ho2.box (((Only.refl Non wr).alloc (.cells #[.slice none 0 0] 43)).box HB.out id) (fun hk => by obtain ⟨cs, h9⟩ := HR.out.box hk; exact (h9.off HB.out (by decide)) rfl)); have HR2 := Lib.hid hr2; have HO2 := Lib.hid ((HO.out.alloc (.cells #[.slice none 0 0] 43)).trans' ho2 fun g hg => .inr (HF.out g hg)); have HF2 := Lib.hid (show ∀ g, ownB (.slice A2 (k + 1) c2) g → w.heap.size ≤ g from fun g hg => (hn2 g hg).elim (HF.out g) fun h => by have := HO.out.size; rw [World.size_alloc] at h; omega); have z3 := HB2.out.cellAt (i := 3) rfl; have zf := HB2.out.free 3; clear hr2 ho2 hn2)
      go_roundw
      case rel =>
        have hos : Only (Just mb) w2 (w2.setCell ⟨mb, 3, none⟩ (.slice A2 (k + 1) c2)) := (Only.refl (Just mb) w2).setCell (p := ⟨mb, 3, none⟩) (.inl (show Just mb mb from rfl)) _
        refine ⟨k + 1, .slice A2 (k + 1) c2, HLT.out, by push_cast; rfl, HB2.out.store 3 (.slice A2 (k + 1) c2), ?_, HF2.out, HO2.out.setCell (p := ⟨mb, 3, none⟩) (.inr HMB.out) _⟩
        have h1 := HR2.out.only hos fun g hg e => by
          obtain ⟨cs, h9⟩ := HR2.out.box hg
          exact (h9.off HB2.out (by decide)) e
        rw [List.replicate_succ']
        exact h1
      case measure => simp [intOf]; have := HLT.out; omega
    · obtain rfl : k = P.q := by omega
      obtain ⟨qb, qc, rfl, _, _⟩ := HR.out.cell (i := 0) (u := .slice none 0 0) (by rw [List.getElem?_replicate, if_pos (by omega)])
      rw [List.length_replicate] at x3 HB HR HF
      clear hlt hk
      have hmk := run_make64 wr
      have hbA : Box (wr.alloc (.cells (fiC (fun _ => 0)) 3)) mb 250 _ := ((Only.refl Non wr).alloc _).box HB.out id
      have x5 : (wr.alloc (.cells (fiC (fun _ => 0)) 3)).cell? ⟨mb, 5, none⟩ = some (.slice none 0 0) := hbA.cellAt rfl
      have f5 : (wr.alloc (.cells (fiC (fun _ => 0)) 3)).frozen? ⟨mb, 5, none⟩ = false := hbA.free 5
      go_upto_region 7 with fail
      have ho2 : Only Non w ((wr.alloc (.cells (fiC (fun _ => 0)) 3)).setCell ⟨mb, 5, none⟩ (.slice (some ⟨wr.heap.size, 0, none⟩) 64 64)) := (HO.out.alloc _).setCell (p := ⟨mb, 5, none⟩) (.inr HMB.out) _
      have hoa : Only Non wr (wr.alloc (.cells (fiC (fun _ => 0)) 3)) := (Only.refl Non wr).alloc _
      have hos : Only (Just mb) (wr.alloc (.cells (fiC (fun _ => 0)) 3)) ((wr.alloc (.cells (fiC (fun _ => 0)) 3)).setCell ⟨mb, 5, none⟩ (.slice (some ⟨wr.heap.size, 0, none⟩) 64 64)) := (Only.refl (Just mb) _).setCell (p := ⟨mb, 5, none⟩) (.inl (show Just mb mb from rfl)) _
      have HB2 := Lib.hid (show Box _ mb 250 (nwC P (.slice (some ⟨qb, 0, none⟩) P.q qc) (.slice (some ⟨wr.heap.size, 0, none⟩) 64 64) (.slice none 0 0)) from (hoa.box HB.out id).store 5 (.slice (some ⟨wr.heap.size, 0, none⟩) 64 64))
      have HF2 := Lib.hid (hos.box (Box.fresh wr 3 (fiC (fun _ => 0))) (fun e => by have h9 : wr.heap.size = mb := e; have := HB.out.lt; omega))
      have HR2 := Lib.hid ((HR.out.only hoa fun _ _ => id).only hos fun g hg e => by
        obtain ⟨cs, h9⟩ := HR.out.box hg
        exact (h9.off HB.out (by decide)) e)
      have HO2 := Lib.hid ho2
      have HZ2 := Lib.hid (show w.heap.size ≤ wr.heap.size from HO.out.size)
      have HN2 := Lib.hid (show qb < wr.heap.size from HR.out.lt (ownB_slice.2 rfl))
      have HQB := Lib.hid (show w.heap.size ≤ qb from HF.out qb (ownB_slice.2 rfl))
      change Code.wp _ _ _ _ ((wr.alloc (.cells (fiC (fun _ => 0)) 3)).setCell ⟨mb, 5, none⟩ (.slice (some ⟨wr.heap.size, 0, none⟩) 64 64))
      clear ho2 hoa hos HB HR HO x3 f3 HF hmk hbA x5 f5
      generalize (wr.alloc (.cells (fiC (fun _ => 0)) 3)).setCell ⟨mb, 5, none⟩ (.slice (some ⟨wr.heap.size, 0, none⟩) 64 64) = W2 at *
      generalize wr.heap.size = ob at *
      have hmk := run_make64 W2
      have hbA : Box (W2.alloc (.cells (fiC (fun _ => 0)) 3)) mb 250 _ := ((Only.refl Non W2).alloc _).box HB2.out id
      have x6 : (W2.alloc (.cells (fiC (fun _ => 0)) 3)).cell? ⟨mb, 6, none⟩ = some (.slice none 0 0) := hbA.cellAt rfl
      have f6 : (W2.alloc (.cells (fiC (fun _ => 0)) 3)).frozen? ⟨mb, 6, none⟩ = false := hbA.free 6
      go_upto_region 8 with fail
      have ho3 : Only Non w ((W2.alloc (.cells (fiC (fun _ => 0)) 3)).setCell ⟨mb, 6, none⟩ (.slice (some ⟨W2.heap.size, 0, none⟩) 64 64)) := (HO2.out.alloc _).setCell (p := ⟨mb, 6, none⟩) (.inr HMB.out) _
      have hoa : Only Non W2 (W2.alloc (.cells (fiC (fun _ => 0)) 3)) := (Only.refl Non W2).alloc _
      have hos : Only (Just mb) (W2.alloc (.cells (fiC (fun _ => 0)) 3)) ((W2.alloc (.cells (fiC (fun _ => 0)) 3)).setCell ⟨mb, 6, none⟩ (.slice (some ⟨W2.heap.size, 0, none⟩) 64 64)) := (Only.refl (Just mb) _).setCell (p := ⟨mb, 6, none⟩) (.inl (show Just mb mb from rfl)) _
      have HB3 := Lib.hid (show Box _ mb 250 (nwC P (.slice (some ⟨qb, 0, none⟩) P.q qc) (.slice (some ⟨ob, 0, none⟩) 64 64) (.slice (some ⟨W2.heap.size, 0, none⟩) 64 64)) from (hoa.box HB2.out id).store 6 (.slice (some ⟨W2.heap.size, 0, none⟩) 64 64))
      have HX3 := Lib.hid (hos.box (Box.fresh W2 3 (fiC (fun _ => 0))) (fun e => by have h9 : W2.heap.size = mb := e; have := HB2.out.lt; omega))
      have HF3 := Lib.hid (hos.box (hoa.box HF2.out id) (HF2.out.off HB2.out (by decide)))
      have HR3 := Lib.hid ((HR2.out.only hoa fun _ _ => id).only hos fun g hg e => by
        obtain ⟨cs, h9⟩ := HR2.out.box hg
        exact (h9.off HB2.out (by decide)) e)
      have HO3 := Lib.hid ho3
      have HN3 := Lib.hid (show ob < W2.heap.size ∧ mb < W2.heap.size ∧ qb < W2.heap.size ∧ w.heap.size ≤ W2.heap.size from ⟨HF2.out.lt, HB2.out.lt, HR2.out.lt (ownB_slice.2 rfl), HO2.out.size⟩)
      have HS3 := Lib.hid (show W2.heap.size + 1 ≤ ((W2.alloc (.cells (fiC (fun _ => 0)) 3)).setCell ⟨mb, 6, none⟩ (.slice (some ⟨W2.heap.size, 0, none⟩) 64 64)).heap.size from by have := hos.size; rw [World.size_alloc] at this; exact this)
      change Code.wp _ _ _ _ ((W2.alloc (.cells (fiC (fun _ => 0)) 3)).setCell ⟨mb, 6, none⟩ (.slice (some ⟨W2.heap.size, 0, none⟩) 64 64))
      clear ho3 hoa hos HB2 HR2 HO2 HF2 f6 x6 hmk hbA
      generalize (W2.alloc (.cells (fiC (fun _ => 0)) 3)).setCell ⟨mb, 6, none⟩ (.slice (some ⟨W2.heap.size, 0, none⟩) 64 64) = W3 at *
      generalize W2.heap.size = eb at *
      go_wp2
      go_ret
      have h1 := HN3.out
      have h2 := HS3.out
      have h3 := HMB.out
      have h4 := HQB.out
      have h5 := HZ2.out
      refine ⟨⟨mb, qb, qc, ob, eb, W3.heap.size⟩, rfl, ⟨.slice none 0 0, fun _ => .slice none 0 0, HB3.out, ?_, fun _ _ => OwnInts.nil _ _ _, OwnInts.nil _ _ _, HF3.out, HX3.out, by dsimp only; omega, by dsimp only; omega, Nat.le_refl _⟩, ?_, HO3.out⟩
      · have h6 := HR3.out
        rw [show List.replicate P.q (Value.slice none 0 0) = qvL P.q (fun _ => .slice none 0 0) by simp [qvL, List.map_const']] at h6
        exact h6
      · rintro k (e | e | e | e) <;> dsimp only at e <;> omega
end
end Go.Proofs.YtodephhlhdbeoaaGreat
