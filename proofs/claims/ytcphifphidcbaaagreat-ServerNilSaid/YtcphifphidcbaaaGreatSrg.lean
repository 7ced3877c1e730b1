/- A server with one request goes on: begin, advance, told. -/
import Derived.Test.YtcphifphidcbaaaGreatSrf
namespace Go.Proofs.YtcphifphidcbaaaGreat
open Go.RowKit Go.ChangeShapes Go.WideShapes
set_option linter.unusedVariables false
set_option linter.unusedSimpArgs false
noncomputable def mz (l : Nat) (w : World) : Nat := @ite _ (w.cell? ⟨l, 52, none⟩ = some (.pointer none)) (Classical.propDecidable _) 1 0
theorem mz_one {l : Nat} {w : World} (h : w.cell? ⟨l, 52, none⟩ = some (.pointer none)) : mz l w = 1 := by unfold mz; rw [@if_pos _ (Classical.propDecidable _) h]
theorem mz_zero {l : Nat} {w : World} {v : Value} (h : w.cell? ⟨l, 52, none⟩ = some v) (hv : v ≠ .pointer none) : mz l w = 0 := by
  unfold mz
  rw [@if_neg _ (Classical.propDecidable _) (by rw [h]; intro e; injection e with e; exact hv e)]
def DonePost (l : Nat) (hv : Value) (w wr : World) : Prop := ∃ tb q jb s', wr.heap.size = wr.heap.size ∧ Box wr l 115 (srvC lc hv s') ∧ s'.cur = .pointer (some ⟨jb, 0, none⟩) ∧ s'.out = .slice (some ⟨tb, 0, none⟩) 1 q ∧ tb ≠ l ∧ (∀ j u, toldV.toList[j]? = some u → wr.cell? ⟨tb, j, none⟩ = some u) ∧ Only (Just l) w wr
def AdvPost (l : Nat) (hv : Value) (w : World) (e : Ending) (wr : World) : Prop := e = .returned (.tuple #[]) ∧ DonePost l hv w wr
section
set_option maxHeartbeats 4000000
set_option maxRecDepth 100000
variable {l jb : Nat} {hv : Value} {s : SrvA} {w : World} {KO : OKind} {i : KO.ι} {cb mb : Nat} {hvc : Value}
theorem begin_read (hne : jb ≠ l) (hc : CchB KO i w cb mb lc hvc 2 KO.s0 (fun _ => none)) (hcur : s.cur = .pointer (some ⟨jb, 0, none⟩)) (hch : s.cache = .pointer (some ⟨cb, 0, none⟩)) (ho : s.out = .slice none 0 0)
    (hb : Box w l 115 (srvC lc hv s)) (hj : Box w jb 123 (jobV 0)) : Calls Tryz.prog 147 #[.pointer (some ⟨l, 0, none⟩)] w (RdPost l jb hv s w) := by
  have x52 := (srv_cell hb 52 (by decide)).trans (by rw [← hcur]; rfl : some (srvF lc hv s 52) = some (.pointer (some ⟨jb, 0, none⟩)))
  have y0 : w.cell? ⟨jb, 0, none⟩ = some (.int .i64 0) := hj.cellAt rfl
  have HR := Lib.hid (reads_miss hne hc hcur hch ho hb hj)
  clear hb hj hc hne hcur hch ho
  go_enter Tryz.func147, Tryz.ntmps147
  go_wp2_with (go_at_call 167; refine HR.out.mono ?_; rintro e W1 ⟨rfl, tb, q, htb, hb5, hc5, ho5⟩)
  (try simp only [Exit.inBlock, Exit.then])
  refine bodyPost_ret (results_none rfl _ _ _) rfl ?_
  exact ⟨rfl, tb, q, htb, hb5, hc5, ho5⟩
theorem clone_req0 (ad : Addr) (c : Nat) (w : World) : Calls Tryz.prog 146 #[.slice (some ad) 0 c] w fun e w' => ∃ A n c, e = .returned (.slice A n c) ∧ Only Non w w' := by
  have he := fun w => Lib.run_eql_slice_nil (P := Tryz.prog) (w := w)
  obtain ⟨i0, hi, hz0, hz1, hz2⟩ := info_parts reqInfo
  have HI := Lib.hid hi
  have HZ := Lib.hid hz0
  have HS := Lib.hid hz1
  have HB := Lib.hid hz2
  have HOW := Lib.hid (show (w.alloc (.cells #[] 120)).ownsRow 0 120 8 (.slice (some ⟨w.heap.size, 0, none⟩) 0 0) 0 [] from ⟨rfl, .inr ⟨w.heap.size, 0, #[], rfl, Nat.zero_le _, heap_alloc_new w _, Nat.le_refl _, Nat.zero_le _, rfl, rfl⟩⟩)
  clear hi hz0 hz1 hz2
  go_enter Tryz.func146, Tryz.ntmps146
  go_wp2_with (at_builtin; refine wpList_append_own_at (w.alloc (.cells #[] 120)) rfl (.tmp 5) (.tmp 6) 111 rfl 0 120 i0 _ 8 80 Tryz.underlying111 HI.out HZ.out HS.out HB.out rfl (by decide) _ 0 [] rfl HOW.out ad 0 c [] rfl rfl (fun j u h => by simp at h) (fun u h => by simp at h) (by decide) (by decide) (Nat.zero_le _) ?_; intro v' w1 h2 h3 h4 h5; have H3 := Lib.hid h3; have H2 := Lib.hid h2; clear h2 h3 h4 h5)
  obtain ⟨A', c', hv', _⟩ := row_form H2.out
  subst hv'
  go_ret
  exact ⟨A', _, c', rfl, ((Only.refl Non w).alloc _).trans' ((Only.refl _ _).grown H3.out fun k hk => .inl hk : Only (ownB (.slice (some ⟨w.heap.size, 0, none⟩) 0 0)) _ _) fun k hk => .inr (Nat.le_of_eq (ownB_slice.1 hk))⟩
theorem adv_one (qb q : Nat) (hqb : qb ≠ l) (hc : CchB KO i w cb mb lc hvc 2 KO.s0 (fun _ => none)) (hk : ∀ k, cchBlk KO i cb mb lc hvc (fun _ => none) k → k ≠ l) (hch : s.cache = .pointer (some ⟨cb, 0, none⟩)) (hcur : s.cur = .pointer none) (ho : s.out = .slice none 0 0) (hq : s.queue = .slice (some ⟨qb, 0, none⟩) 1 q) (hq1 : 1 ≤ q)
    (hu : s.up = true) (hb1 : s.boots 0 = 1) (hr : ∀ j u, rqV.toList[j]? = some u → w.cell? ⟨qb, j, none⟩ = some u) (hb : Box w l 115 (srvC lc hv s)) :
    Calls Tryz.prog 101 #[.pointer (some ⟨l, 0, none⟩)] w (AdvPost l hv w) := by
  have HB := Lib.hid hb
  have HC := Lib.hid hc
  have HK := Lib.hid hk
  have HCH := Lib.hid hch
  have HO := Lib.hid ho
  have HQB := Lib.hid hqb
  have HQ1 := Lib.hid hq1
  have HR := Lib.hid hr
  have X51 := Lib.hid ((srv_cell hb 51 (by decide)).trans (by rw [← hq]; rfl : some (srvF lc hv s 51) = some (.slice (some ⟨qb, 0, none⟩) 1 q)))
  have X52 := Lib.hid ((srv_cell hb 52 (by decide)).trans (by rw [← hcur]; rfl : some (srvF lc hv s 52) = some (.pointer none)))
  have HRD := Lib.hid (ready_yes hu hb1 hb)
  clear hb hc hk hch ho hqb hq1 hr hcur hq hu hb1
  go_enter Tryz.func101, Tryz.ntmps101
  go_wp2_with fail
  go_loopw [] (fun wr => wr = w ∨ DonePost l hv w wr) (fun wr => mz l wr)
  case atStart => exact .inl rfl
  case round =>
    rcases hrel with rfl | hd
    · have x51 := X51.out
      have x52 := X52.out
      have k0 : wr.cell? ⟨qb, 0, none⟩ = some (.int .i64 0) := HR.out 0 _ rfl
      have k1 : wr.cell? ⟨qb, 1, none⟩ = some (.int .i64 0) := HR.out 1 _ rfl
      have k2 : wr.cell? ⟨qb, 2, none⟩ = some (.int .i64 1) := HR.out 2 _ rfl
      have k3 : wr.cell? ⟨qb, 3, none⟩ = some (.int .i64 0) := HR.out 3 _ rfl
      have k4 : wr.cell? ⟨qb, 4, none⟩ = some (.int .i64 1) := HR.out 4 _ rfl
      have k5 : wr.cell? ⟨qb, 5, none⟩ = some (.int .i64 1) := HR.out 5 _ rfl
      have k6 : wr.cell? ⟨qb, 6, none⟩ = some (.int .i64 1) := HR.out 6 _ rfl
      have k7 : wr.cell? ⟨qb, 7, none⟩ = some (.slice none 0 0) := HR.out 7 _ rfl
      have al := fun n => (Only.refl Non (wr.drewN n)).alloc (.cells (jobV 0) 123)
      have f52 : ∀ n, ((wr.drewN n).alloc (.cells #[.int .i64 0, .int .i64 0, .int .i64 1, .int .i64 0, .int .i64 1, .int .i64 1, .int .i64 1, .slice none 0 0, .int .i64 0, .int .i64 0, .int .i64 0, .int .u8 0, .bool false] 123)).frozen? ⟨l, 52, none⟩ = false := fun n => ((al n).box (HB.out.drewN n) id).free _
      have c52 : ∀ n, ((wr.drewN n).alloc (.cells #[.int .i64 0, .int .i64 0, .int .i64 1, .int .i64 0, .int .i64 1, .int .i64 1, .int .i64 1, .slice none 0 0, .int .i64 0, .int .i64 0, .int .i64 0, .int .u8 0, .bool false] 123)).cell? ⟨l, 52, none⟩ = some (.pointer none) := fun n => (al n).cell x52 id
      have HAL := Lib.hid al
      clear al
      go_upto_region 2 with (go_at_call 33; refine HRD.out.mono ?_; rintro e W1 ⟨rfl, n, rfl⟩)
      obtain ⟨W2, e2⟩ : ∃ W2, W2 = ((wr.drewN n).alloc (.cells #[.int .i64 0, .int .i64 0, .int .i64 1, .int .i64 0, .int .i64 1, .int .i64 1, .int .i64 1, .slice none 0 0, .int .i64 0, .int .i64 0, .int .i64 0, .int .u8 0, .bool false] 123)).setCell ⟨l, 52, none⟩ (.pointer (some ⟨wr.heap.size, 0, none⟩)) := ⟨_, rfl⟩
      have hal : Only Non wr ((wr.drewN n).alloc (.cells #[.int .i64 0, .int .i64 0, .int .i64 1, .int .i64 0, .int .i64 1, .int .i64 1, .int .i64 1, .slice none 0 0, .int .i64 0, .int .i64 0, .int .i64 0, .int .u8 0, .bool false] 123)) := ((Only.refl Non wr).drewN n).alloc _
      have j2 : Only (Just l) ((wr.drewN n).alloc (.cells #[.int .i64 0, .int .i64 0, .int .i64 1, .int .i64 0, .int .i64 1, .int .i64 1, .int .i64 1, .slice none 0 0, .int .i64 0, .int .i64 0, .int .i64 0, .int .u8 0, .bool false] 123)) W2 := e2 ▸ (Only.refl (Just l) _).setCell (p := ⟨l, 52, none⟩) (.inl (show Just l l from rfl)) _
      have hlt := HB.out.lt
      have HJ2 := Lib.hid (j2.box (show Box ((wr.drewN n).alloc (.cells #[.int .i64 0, .int .i64 0, .int .i64 1, .int .i64 0, .int .i64 1, .int .i64 1, .int .i64 1, .slice none 0 0, .int .i64 0, .int .i64 0, .int .i64 0, .int .u8 0, .bool false] 123)) wr.heap.size 123 (jobV 0) from Box.fresh (wr.drewN n) 123 (jobV 0)) (show ¬ wr.heap.size = l by omega))
      have hb2 : Box W2 l 115 ((srvC lc hv s).setIfInBounds 52 (.pointer (some ⟨wr.heap.size, 0, none⟩))) := e2 ▸ (hal.box HB.out id).store 52 _
      rw [srv_cur] at hb2
      have HB2 := Lib.hid hb2
      have HC2 := Lib.hid ((HC.out.keep hal).far' j2 fun k hk e => HK.out k hk e)
      have HO2 := Lib.hid (show Only (Just l) wr W2 from (hal.mono fun k h => h.elim).trans j2)
      have y51 : W2.cell? ⟨l, 51, none⟩ = some (.slice (some ⟨qb, 0, none⟩) 1 q) := by
        have h1 := hal.cell x51 id
        rw [e2]
        exact (World.cell?_setCell_other _ _ _ _ (fun e => by injection e with _ e; cases e)).trans h1
      have g51 : W2.frozen? ⟨l, 51, none⟩ = false := HB2.out.free _
      have hq1 := HQ1.out
      have HLT := Lib.hid hlt
      rw [← e2]
      clear e2 hal j2 hb2 f52 c52 k0 k1 k2 k3 k4 k5 k6 k7 HAL x51 x52 HRD hlt
      have hcl : Calls Tryz.prog 146 #[.slice (if q = 1 then some ⟨qb, 0, none⟩ else some ⟨qb, 8, none⟩) 0 (q - 1)] W2 fun e w' => ∃ A n c, e = .returned (.slice A n c) ∧ Only Non W2 w' := by
        by_cases h : q = 1
        · rw [if_pos h]; exact clone_req0 ⟨qb, 0, none⟩ (q - 1) W2
        · rw [if_neg h]; exact clone_req0 ⟨qb, 8, none⟩ (q - 1) W2
      have HCL := Lib.hid hcl
      clear hcl
      go_upto_region 3 with (go_at_call 146; refine HCL.out.mono ?_; rintro e W3 ⟨vA, vn, vc, rfl, ho3⟩; have y51' := ho3.cell y51 id; have g51' : W3.frozen? ⟨l, 51, none⟩ = false := (ho3.box HB2.out id).free _)
      have j4 : Only (Just l) W3 (W3.setCell ⟨l, 51, none⟩ (.slice vA vn vc)) := (Only.refl (Just l) W3).setCell (p := ⟨l, 51, none⟩) (.inl (show Just l l from rfl)) _
      have hb4 := (ho3.box HB2.out id).store 51 (.slice vA vn vc)
      rw [srv_queue] at hb4
      have HB4 := Lib.hid hb4
      have HJ4 := Lib.hid (j4.box (ho3.box HJ2.out id) (show ¬ wr.heap.size = l from by have := HLT.out; omega))
      have HC4 := Lib.hid ((HC2.out.keep ho3).far' j4 fun k hk e => HK.out k hk e)
      have HO4 := Lib.hid ((HO2.out.trans' ho3 fun _ h => h.elim).trans j4)
      change Code.wp _ _ _ _ (W3.setCell ⟨l, 51, none⟩ (.slice vA vn vc))
      clear j4 hb4 ho3 HJ2 HB2 HC2 HO2 y51 g51 y51' g51' HCL
      generalize W3.setCell ⟨l, 51, none⟩ (.slice vA vn vc) = W4 at *
      have HBG := Lib.hid (begin_read (jb := wr.heap.size) (by have := HLT.out; omega) HC4.out (by rfl) (by exact HCH.out) (by exact HO.out) HB4.out HJ4.out)
      go_wp2_with (go_at_call 147; refine HBG.out.mono ?_; rintro e W5 ⟨rfl, tb, q5, htb, hb5, hc5, ho5⟩)
      refine ⟨.inr ⟨tb, q5, wr.heap.size, _, rfl, hb5, rfl, rfl, ?_, hc5, HO4.out.trans' ho5 fun k hk => ?_⟩, ?_⟩
      · have h1 := HO4.out.size; have h2 := HLT.out; omega
      · rcases hk with hk | hk
        · exact .inl hk
        · exact .inr (by omega)
      · rw [mz_one X52.out, mz_zero ((srv_cell hb5 52 (by decide)).trans rfl) (by intro e; cases e)]
        decide
    · obtain ⟨tb, q5, jb, s', _, hb5, hcur5, hout5, htl, hc5, ho5⟩ := hd
      have x52 := (srv_cell hb5 52 (by decide)).trans (by rw [← hcur5]; rfl : some (srvF lc hv s' 52) = some (.pointer (some ⟨jb, 0, none⟩)))
      have HD := Lib.hid (show DonePost l hv w wr from ⟨tb, q5, jb, s', rfl, hb5, hcur5, hout5, htl, hc5, ho5⟩)
      clear hb5 hcur5 hout5 hc5 ho5 htl X51 X52 HRD
      go_wp2_with fail
      go_end0
      exact ⟨rfl, HD.out⟩
end
end Go.Proofs.YtcphifphidcbaaaGreat
