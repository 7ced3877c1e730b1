/- array.read of a block that the cache hasn't, and doesn't keep. Printed by arb.py. -/
import Derived.Test.YtcphifphidcbaaaGreatAra
import Derived.Test.YtcphifphidcbaaaGreatMsgC
import Derived.Test.YtcphifphidcbaaaGreatCla
namespace Go.Proofs.YtcphifphidcbaaaGreat
open Go.RowKit Go.ChangeShapes Go.WideShapes
set_option linter.unusedVariables false
set_option linter.unusedSimpArgs false
theorem results_cell2 {P : Program} {fn : Func} {p u : Tmp} {ty : TypeId} (h : fn.results = #[.cell p ty, .tmp u]) (tmps : Array Value) (w : World) (g : Nat) (t : TypeId) (cs : Array Value) (fr : Nat × Nat) (d : TypeDesc)
    (hp : tmps.getD p undef = .pointer (some ⟨g, 0, none⟩)) (hg : w.heap[g]? = some (.cells cs t fr))
    (hu : P.underlying ty = some d) (hd : (match d with | .struct _ | .array _ _ => true | _ => false) = true) (hi : (P.info? ty).map (·.size) = some cs.size) :
    (results fn tmps).run P w = .ok (.tuple #[.agg cs, tmps.getD u undef]) w := by
  have hp' : tmps[p]?.getD undef = .pointer (some ⟨g, 0, none⟩) := by simpa using hp
  simp [results, h, hp', asAddr, run_loadVar_row w g t ty cs fr d hg hu hd hi, Sem.run_bind, Result.andThen]
section
set_option maxHeartbeats 4000000
set_option maxRecDepth 100000
variable {KO : OKind} {i : KO.ι} {w : World} {cb mb : Nat} {c : CfgA} {hvc : Value} {tier : Nat} {s : KO.σ} {D : Int → Option Blk}
theorem cch_drop_no (b : Int) (h : CchB KO i w cb mb c hvc tier s D) (hb : b ∉ KO.sp.all s) :
    Calls Tryz.prog 43 #[.pointer (some ⟨cb, 0, none⟩), .int .i64 b] w fun e w' => e = .returned (.tuple #[.agg #[.int .i64 0, .slice none 0 0], .bool false]) ∧ Only Non w w' := by
  have HC := Lib.hid (fun w' (ho : Only Non w w') => by
    have HC := cch_has b (h.keep ho)
    rw [decide_eq_false hb] at HC
    exact HC)
  clear h hb
  go_enter Tryz.func43, Tryz.ntmps43
  go_upto_region 1 with fail
  have al := (Only.refl Non w).alloc (.cells #[.int .i64 0, .slice none 0 0] 78)
  have HB := Lib.hid (Box.fresh w 78 #[.int .i64 0, .slice none 0 0])
  have HO := Lib.hid al
  have HC1 := Lib.hid (HC.out _ al)
  change Code.wp _ _ _ _ (w.alloc (.cells #[.int .i64 0, .slice none 0 0] 78))
  clear al HC
  generalize w.alloc (.cells #[.int .i64 0, .slice none 0 0] 78) = W1 at *
  generalize hfb : w.heap.size = fb at *
  have HF := Lib.hid hfb
  clear hfb
  go_upto_region 2 with (go_at_call 77; refine HC1.out.mono ?_; rintro e w1 ⟨rfl, h1⟩)
  have HB1 := Lib.hid (h1.box HB.out id)
  have HO1 := Lib.hid (HO.out.trans h1)
  clear h1 HC1 HB HO
  go_wp2_with (refine wpList_store_row rfl 78 _ _ rfl fb #[.int .i64 0, .slice none 0 0] rfl rfl 78 _ HB1.out (by kernel_rfl) rfl (by simp [Value.oneCell']) ?_)
  (try simp only [Exit.inBlock, Exit.then])
  refine bodyPost_ret (results_cell2 rfl _ _ fb _ #[.int .i64 0, .slice none 0 0] (0, 0) _ rfl (HB1.out.setRow' _) Tryz.underlying78 rfl (by kernel_rfl)) rfl ?_
  exact ⟨rfl, HO1.out.setRow' (.inr (Nat.le_of_eq HF.out)) _⟩
theorem arr_keep_no {ab sb : Nat} {hv : Value} {rd : Int} {lm : Value} (b level : Int) (v : Value) (hm : c.f 4 = 2) (hl : level ≠ 3) (ha : Box w ab 97 (arrC c hv sb cb false rd lm)) (h : CchB KO i w cb mb c hvc tier s D) (hb : b ∉ KO.sp.all s) :
    Calls Tryz.prog 94 #[.pointer (some ⟨ab, 0, none⟩), .int .i64 b, .int .i64 level, v] w fun e w' => e = .returned (.slice none 0 0) ∧ Only Non w w' := by
  have x4 : w.cell? ⟨ab, 4, none⟩ = some (.int .i64 2) := ha.cellAt (by rw [← hm]; exact arr_f c hv sb cb false rd lm (by decide))
  have x18 : w.cell? ⟨ab, 18, none⟩ = some (.pointer (some ⟨cb, 0, none⟩)) := ha.cellAt rfl
  have HDR := Lib.hid (cch_drop_no b h hb)
  have hl3 : (level == 3) = false := by simpa using hl
  clear ha h hb hm hl
  go_enter Tryz.func94, Tryz.ntmps94
  go_wp2_with (go_at_call 43; refine HDR.out.mono ?_; rintro e w1 ⟨rfl, h1⟩)
  go_ret
  exact ⟨rfl, h1⟩
def bdC (b : Int) (v : Value) : Array Value := #[.int .i64 12, .int .i64 0, .int .i64 0, .int .i64 0, .int .i64 0, .int .i64 b, .int .i64 0, .int .i64 0, .int .i64 0, .bool false, v]
theorem msgInfo : (Tryz.prog.info? 25).map (fun i => (i.zero, i.size, i.bytes)) = some (some (.agg #[.int .i64 0, .int .i64 0, .int .i64 0, .int .i64 0, .int .i64 0, .int .i64 0, .int .i64 0, .int .i64 0, .int .i64 0, .bool false, .slice none 0 0]), 11, 104) := by kernel_rfl
/-- what is told: the block's bytes -/
def BdPost (ab : Nat) (b : Int) (t : List Int) (cs : Array Value) (w : World) (e : Ending) (w' : World) : Prop :=
  ∃ g q v, e = .returned (.slice (some ⟨g, 0, none⟩) 1 q) ∧ (∀ j u, (bdC b v).toList[j]? = some u → w'.cell? ⟨g, j, none⟩ = some u) ∧ Byt w' v t ∧ Box w' ab 97 cs ∧ Only (Just ab) w w' ∧ w.heap.size ≤ g
theorem arr_read_miss {ab sb db lb : Nat} {A : Option Addr} {n cp : Nat} {rd : Int} {lm : Value} {V : Nat → Value} {d : DskS} {m : MsgA} {b size : Nat} (hm : c.f 4 = 2) (hl : m.f 6 ≠ 3) (hbk : m.f 5 = b) (hb1 : (b : Int) < c.f 2) (hsz : c.f 3 = size)
    (hrd : 0 ≤ rd ∧ rd < 1000000) (ha : Box w ab 97 (arrC c (.slice A n cp) sb cb false rd lm)) (h : CchB KO i w cb mb c hvc tier s D) (hcb : ∀ k, cchBlk KO i cb mb c hvc D k → k ≠ ab) (hs : StoB w sb db lb V (shOf c) d) (hb : (b : Int) ∉ KO.sp.all s) :
    Calls Tryz.prog 55 #[.pointer (some ⟨ab, 0, none⟩), .agg (msgC m (.slice none 0 0))] w (BdPost ab b (blkOf size (d.sec (1 + b))).2 (arrC c (.slice A n cp) sb cb false (rd + 1) lm) w) := by
  have HA := Lib.hid ha
  have HC := Lib.hid h
  have HS := Lib.hid hs
  have HNB := Lib.hid (show m.f 5 ∉ KO.sp.all s by rw [hbk]; exact hb)
  have HM4 := Lib.hid hm
  have HL := Lib.hid hl
  have HBK := Lib.hid hbk
  have HB1 := Lib.hid hb1
  have HSZ := Lib.hid hsz
  have HRD0 := Lib.hid hrd
  have HCB := Lib.hid hcb
  have HLT := Lib.hid ha.lt
  clear ha h hs hb hm hl hbk hb1 hsz hrd hcb
  go_enter Tryz.func55, Tryz.ntmps55
  go_upto_region 1 with fail
  obtain ⟨mc, hmc⟩ : ∃ mc, mc = mb := ⟨_, rfl⟩
  subst hmc
  have al1 := (Only.refl Non w).alloc (.cells (msgC m (.slice none 0 0)) 25)
  have HO1 := Lib.hid al1
  have HM1 := Lib.hid (Box.fresh w 25 (msgC m (.slice none 0 0)))
  have HA1 := Lib.hid (al1.box HA.out id)
  have HC1 := Lib.hid (HC.out.keep al1)
  change Code.wp _ _ _ _ (w.alloc (.cells (msgC m (.slice none 0 0)) 25))
  clear al1
  generalize w.alloc (.cells (msgC m (.slice none 0 0)) 25) = W1 at *
  obtain ⟨mb, hmb⟩ : ∃ mb, mb = w.heap.size := ⟨_, rfl⟩
  rw [← hmb] at HM1 HLT ⊢
  have HMB := Lib.hid hmb
  clear hmb
  refine wp_region_tail (S := (fun w' : World => Box w' ab 97 (arrC c (.slice A n cp) sb cb false rd lm) ∧ Box w' mb 25 (msgC m (.slice none 0 0)) ∧ Only Non w w')) 11 (by kernel_rfl) (by kernel_rfl) ?_ ?_
  · first | exact hS2 | exact ⟨HA1.out.drew, HM1.out.drew, HO1.out.drew⟩
  intro hSS
  refine wpHd_take (i := 0) (v := ?_) (by kernel_rfl) rfl (by kernel_rfl) (fun _ _ _ h => h) (Or.inl ⟨by rfl, ?_⟩) (by assumption) ?_
  rotate_left
  · intro w hSw; (try dsimp only at hSw); go_simp; (try with_reducible rfl)
  try simp only [Act.put, List.getElem_toArray, List.getElem_cons_succ, List.getElem_cons_zero, List.setIfInBounds_toArray, List.set_cons_zero, List.set_cons_succ]
  refine wpHd_take (i := 1) (v := ?_) (by kernel_rfl) rfl (by kernel_rfl) (fun _ _ _ h => h) (Or.inl ⟨by rfl, ?_⟩) (by assumption) ?_
  rotate_left
  · intro w hSw; (try dsimp only at hSw); go_simp; (try with_reducible rfl)
  try simp only [Act.put, List.getElem_toArray, List.getElem_cons_succ, List.getElem_cons_zero, List.setIfInBounds_toArray, List.set_cons_zero, List.set_cons_succ]
  refine wpHd_take (i := 2) (v := ?_) (by kernel_rfl) rfl (by kernel_rfl) (fun _ _ _ h => h) (Or.inl ⟨by rfl, ?_⟩) (by assumption) ?_
  rotate_left
  · intro w hSw; (try dsimp only at hSw); go_simp; (try with_reducible rfl)
  try simp only [Act.put, List.getElem_toArray, List.getElem_cons_succ, List.getElem_cons_zero, List.setIfInBounds_toArray, List.set_cons_zero, List.set_cons_succ]
  refine wpHd_take (i := 3) (v := .pointer (some ⟨cb, 0, none⟩)) (by kernel_rfl) rfl (by kernel_rfl) (fun _ _ _ h => h) (Or.inl ⟨by rfl, ?_⟩) (by assumption) ?_
  · intro w hSw; have hq := hSw.1.cellAt (i := 18) (v := .pointer (some ⟨cb, 0, none⟩)) rfl; clear hSw; go_simp; (try with_reducible rfl)
  try simp only [Act.put, List.getElem_toArray, List.getElem_cons_succ, List.getElem_cons_zero, List.setIfInBounds_toArray, List.set_cons_zero, List.set_cons_succ]
  refine wpHd_take (i := 4) (v := ?_) (by kernel_rfl) rfl (by kernel_rfl) (fun _ _ _ h => h) (Or.inl ⟨by rfl, ?_⟩) (by assumption) ?_
  rotate_left
  · intro w hSw; (try dsimp only at hSw); go_simp; (try with_reducible rfl)
  try simp only [Act.put, List.getElem_toArray, List.getElem_cons_succ, List.getElem_cons_zero, List.setIfInBounds_toArray, List.set_cons_zero, List.set_cons_succ]
  refine wpHd_take (i := 5) (v := .int .i64 (m.f 5)) (by kernel_rfl) rfl (by kernel_rfl) (fun _ _ _ h => h) (Or.inl ⟨by rfl, ?_⟩) (by assumption) ?_
  · intro w hSw; have hq := hSw.2.1.cellAt (i := 5) (v := .int .i64 (m.f 5)) rfl; clear hSw; go_simp; (try with_reducible rfl)
  try simp only [Act.put, List.getElem_toArray, List.getElem_cons_succ, List.getElem_cons_zero, List.setIfInBounds_toArray, List.set_cons_zero, List.set_cons_succ]
  refine wpHd_one (i := 6) rfl (by kernel_rfl) (fun K hK => ?_)
  go_simp
  refine (cch_use_no (m.f 5) (HC1.out.keep ((Only.refl Non W1).drew)) HNB.out).mono ?_
  rintro e W2 ⟨rfl, ho2⟩
  have hS2 : Box W2 ab 97 (arrC c (.slice A n cp) sb cb false rd lm) ∧ Box W2 mb 25 (msgC m (.slice none 0 0)) ∧ Only Non w W2 := ⟨ho2.box hSS.1 id, ho2.box hSS.2.1 id, hSS.2.2.trans ho2⟩
  have HO2 := Lib.hid ho2
  clear ho2
  refine hK.out _ _ ?_ (fun hSS => ?_)
  · first | exact hS2 | exact ⟨HA1.out.drew, HM1.out.drew, HO1.out.drew⟩
  clear hK
  try simp only [Act.put, List.getElem_toArray, List.getElem_cons_succ, List.getElem_cons_zero, List.setIfInBounds_toArray, List.set_cons_zero, List.set_cons_succ]
  refine wpHd_take (i := 7) (v := ?_) (by kernel_rfl) rfl (by kernel_rfl) (fun _ _ _ h => h) (Or.inl ⟨by rfl, ?_⟩) (by assumption) ?_
  rotate_left
  · intro w hSw; (try dsimp only at hSw); go_simp; (try with_reducible rfl)
  try simp only [Act.put, List.getElem_toArray, List.getElem_cons_succ, List.getElem_cons_zero, List.setIfInBounds_toArray, List.set_cons_zero, List.set_cons_succ]
  refine wpHd_take (i := 8) (v := ?_) (by kernel_rfl) rfl (by kernel_rfl) (fun _ _ _ h => h) (Or.inl ⟨by rfl, ?_⟩) (by assumption) ?_
  rotate_left
  · intro w hSw; (try dsimp only at hSw); go_simp; (try with_reducible rfl)
  try simp only [Act.put, List.getElem_toArray, List.getElem_cons_succ, List.getElem_cons_zero, List.setIfInBounds_toArray, List.set_cons_zero, List.set_cons_succ]
  refine wpHd_take (i := 9) (v := ?_) (by kernel_rfl) rfl (by kernel_rfl) (fun _ _ _ h => h) (Or.inl ⟨by rfl, ?_⟩) (by assumption) ?_
  rotate_left
  · intro w hSw; (try dsimp only at hSw); go_simp; (try with_reducible rfl)
  try simp only [Act.put, List.getElem_toArray, List.getElem_cons_succ, List.getElem_cons_zero, List.setIfInBounds_toArray, List.set_cons_zero, List.set_cons_succ]
  refine wpHd_take (i := 10) (v := ?_) (by kernel_rfl) rfl (by kernel_rfl) (fun _ _ _ h => h) (Or.inl ⟨by rfl, ?_⟩) (by assumption) ?_
  rotate_left
  · intro w hSw; (try dsimp only at hSw); go_simp; (try with_reducible rfl)
  try simp only [Act.put, List.getElem_toArray, List.getElem_cons_succ, List.getElem_cons_zero, List.setIfInBounds_toArray, List.set_cons_zero, List.set_cons_succ]
  refine wpHd_end (by kernel_rfl) ?_
  have HS2 := Lib.hid hS2
  have HC2 := Lib.hid ((HC1.out.keep ((Only.refl Non W1).drew)).keep HO2.out)
  clear hSS hS2
  go_upto_region 3 with fail
  have HT2 := Lib.hid ((((HS.out.keep HO1.out).keep ((Only.refl Non W1).drew)).keep HO2.out).keep ((Only.refl Non W2).drew))
  have HRD := sto_Read (b := b) (size := size) HB1.out HSZ.out HT2.out
  rw [← HBK.out] at HRD
  have HRD := Lib.hid HRD
  have HBL := Lib.hid (blkOf_len size (d.sec (1 + b)))
  generalize (blkOf size (d.sec (1 + b))).1 = ver at *
  generalize (blkOf size (d.sec (1 + b))).2 = t at *
  refine wp_region_tail (S := (fun w' : World => Box w' ab 97 (arrC c (.slice A n cp) sb cb false rd lm) ∧ Box w' mb 25 (msgC m (.slice none 0 0)) ∧ Only Non w w')) 13 (by kernel_rfl) (by kernel_rfl) ?_ ?_
  · first | exact hS3 | exact ⟨HS2.out.1.drew, HS2.out.2.1.drew, HS2.out.2.2.drew⟩
  intro hSS
  refine wpHd_take (i := 0) (v := ?_) (by kernel_rfl) rfl (by kernel_rfl) (fun _ _ _ h => h) (Or.inl ⟨by rfl, ?_⟩) (by assumption) ?_
  rotate_left
  · intro w hSw; (try dsimp only at hSw); go_simp; (try with_reducible rfl)
  try simp only [Act.put, List.getElem_toArray, List.getElem_cons_succ, List.getElem_cons_zero, List.setIfInBounds_toArray, List.set_cons_zero, List.set_cons_succ]
  refine wpHd_take (i := 1) (v := ?_) (by kernel_rfl) rfl (by kernel_rfl) (fun _ _ _ h => h) (Or.inl ⟨by rfl, ?_⟩) (by assumption) ?_
  rotate_left
  · intro w hSw; (try dsimp only at hSw); go_simp; (try with_reducible rfl)
  try simp only [Act.put, List.getElem_toArray, List.getElem_cons_succ, List.getElem_cons_zero, List.setIfInBounds_toArray, List.set_cons_zero, List.set_cons_succ]
  refine wpHd_take (i := 2) (v := ?_) (by kernel_rfl) rfl (by kernel_rfl) (fun _ _ _ h => h) (Or.inl ⟨by rfl, ?_⟩) (by assumption) ?_
  rotate_left
  · intro w hSw; (try dsimp only at hSw); go_simp; (try with_reducible rfl)
  try simp only [Act.put, List.getElem_toArray, List.getElem_cons_succ, List.getElem_cons_zero, List.setIfInBounds_toArray, List.set_cons_zero, List.set_cons_succ]
  refine wpHd_take (i := 3) (v := .pointer (some ⟨sb, 0, none⟩)) (by kernel_rfl) rfl (by kernel_rfl) (fun _ _ _ h => h) (Or.inl ⟨by rfl, ?_⟩) (by assumption) ?_
  · intro w hSw; have hq := hSw.1.cellAt (i := 17) (v := .pointer (some ⟨sb, 0, none⟩)) rfl; clear hSw; go_simp; (try with_reducible rfl)
  try simp only [Act.put, List.getElem_toArray, List.getElem_cons_succ, List.getElem_cons_zero, List.setIfInBounds_toArray, List.set_cons_zero, List.set_cons_succ]
  refine wpHd_take (i := 4) (v := ?_) (by kernel_rfl) rfl (by kernel_rfl) (fun _ _ _ h => h) (Or.inl ⟨by rfl, ?_⟩) (by assumption) ?_
  rotate_left
  · intro w hSw; (try dsimp only at hSw); go_simp; (try with_reducible rfl)
  try simp only [Act.put, List.getElem_toArray, List.getElem_cons_succ, List.getElem_cons_zero, List.setIfInBounds_toArray, List.set_cons_zero, List.set_cons_succ]
  refine wpHd_take (i := 5) (v := .int .i64 (m.f 5)) (by kernel_rfl) rfl (by kernel_rfl) (fun _ _ _ h => h) (Or.inl ⟨by rfl, ?_⟩) (by assumption) ?_
  · intro w hSw; have hq := hSw.2.1.cellAt (i := 5) (v := .int .i64 (m.f 5)) rfl; clear hSw; go_simp; (try with_reducible rfl)
  try simp only [Act.put, List.getElem_toArray, List.getElem_cons_succ, List.getElem_cons_zero, List.setIfInBounds_toArray, List.set_cons_zero, List.set_cons_succ]
  refine wpHd_one (i := 6) rfl (by kernel_rfl) (fun K hK => ?_)
  go_simp
  refine HRD.out.mono ?_
  rintro e W3 ⟨v, rfl, hr3, ho3, hk3⟩
  have hS3 : Box W3 ab 97 (arrC c (.slice A n cp) sb cb false rd lm) ∧ Box W3 mb 25 (msgC m (.slice none 0 0)) ∧ Only Non w W3 := ⟨ho3.box hSS.1 id, ho3.box hSS.2.1 id, hSS.2.2.trans ho3⟩
  have HO3 := Lib.hid ho3
  have HR3 := Lib.hid hr3
  have HK3 := Lib.hid hk3
  clear ho3 hr3 hk3
  refine hK.out _ _ ?_ (fun hSS => ?_)
  · first | exact hS3 | exact ⟨HS2.out.1.drew, HS2.out.2.1.drew, HS2.out.2.2.drew⟩
  clear hK
  try simp only [Act.put, List.getElem_toArray, List.getElem_cons_succ, List.getElem_cons_zero, List.setIfInBounds_toArray, List.set_cons_zero, List.set_cons_succ]
  refine wpHd_take (i := 7) (v := ?_) (by kernel_rfl) rfl (by kernel_rfl) (fun _ _ _ h => h) (Or.inl ⟨by rfl, ?_⟩) (by assumption) ?_
  rotate_left
  · intro w hSw; (try dsimp only at hSw); go_simp; (try with_reducible rfl)
  try simp only [Act.put, List.getElem_toArray, List.getElem_cons_succ, List.getElem_cons_zero, List.setIfInBounds_toArray, List.set_cons_zero, List.set_cons_succ]
  refine wpHd_take (i := 8) (v := ?_) (by kernel_rfl) rfl (by kernel_rfl) (fun _ _ _ h => h) (Or.inl ⟨by rfl, ?_⟩) (by assumption) ?_
  rotate_left
  · intro w hSw; (try dsimp only at hSw); go_simp; (try with_reducible rfl)
  try simp only [Act.put, List.getElem_toArray, List.getElem_cons_succ, List.getElem_cons_zero, List.setIfInBounds_toArray, List.set_cons_zero, List.set_cons_succ]
  refine wpHd_take (i := 9) (v := ?_) (by kernel_rfl) rfl (by kernel_rfl) (fun _ _ _ h => h) (Or.inl ⟨by rfl, ?_⟩) (by assumption) ?_
  rotate_left
  · intro w hSw; (try dsimp only at hSw); go_simp; (try with_reducible rfl)
  try simp only [Act.put, List.getElem_toArray, List.getElem_cons_succ, List.getElem_cons_zero, List.setIfInBounds_toArray, List.set_cons_zero, List.set_cons_succ]
  refine wpHd_take (i := 10) (v := ?_) (by kernel_rfl) rfl (by kernel_rfl) (fun _ _ _ h => h) (Or.inl ⟨by rfl, ?_⟩) (by assumption) ?_
  rotate_left
  · intro w hSw; (try dsimp only at hSw); go_simp; (try with_reducible rfl)
  try simp only [Act.put, List.getElem_toArray, List.getElem_cons_succ, List.getElem_cons_zero, List.setIfInBounds_toArray, List.set_cons_zero, List.set_cons_succ]
  refine wpHd_take (i := 11) (v := ?_) (by kernel_rfl) rfl (by kernel_rfl) (fun _ _ _ h => h) (Or.inl ⟨by rfl, ?_⟩) (by assumption) ?_
  rotate_left
  · intro w hSw; (try dsimp only at hSw); go_simp; (try with_reducible rfl)
  try simp only [Act.put, List.getElem_toArray, List.getElem_cons_succ, List.getElem_cons_zero, List.setIfInBounds_toArray, List.set_cons_zero, List.set_cons_succ]
  refine wpHd_take (i := 12) (v := ?_) (by kernel_rfl) rfl (by kernel_rfl) (fun _ _ _ h => h) (Or.inl ⟨by rfl, ?_⟩) (by assumption) ?_
  rotate_left
  · intro w hSw; (try dsimp only at hSw); go_simp; (try with_reducible rfl)
  try simp only [Act.put, List.getElem_toArray, List.getElem_cons_succ, List.getElem_cons_zero, List.setIfInBounds_toArray, List.set_cons_zero, List.set_cons_succ]
  refine wpHd_end (by kernel_rfl) ?_
  have HS3 := Lib.hid hS3
  have HC3 := Lib.hid ((HC2.out.keep ((Only.refl Non W2).drew)).keep HO3.out)
  have y20 : W3.cell? ⟨ab, 20, none⟩ = some (.int .i64 rd) := hS3.1.cellAt rfl
  have g20 : W3.frozen? ⟨ab, 20, none⟩ = false := hS3.1.free _
  have hwr : IntKind.i64.wrap (rd + 1) = rd + 1 := by have := HRD0.out; rw [IntKind.wrap_i64]; omega
  clear hSS hS3 HRD
  go_upto_region 9 with fail
  have j4 : Only (Just ab) W3 (W3.setCell ⟨ab, 20, none⟩ (.int .i64 (rd + 1))) := (Only.refl (Just ab) W3).setCell (p := ⟨ab, 20, none⟩) (.inl (show Just ab ab from rfl)) _
  have HA4 := Lib.hid (show Box (W3.setCell ⟨ab, 20, none⟩ (.int .i64 (rd + 1))) ab 97 (arrC c (.slice A n cp) sb cb false (rd + 1) lm) from HS3.out.1.store 20 _)
  have HM4b := Lib.hid (j4.box HS3.out.2.1 (show ¬ mb = ab by have := HLT.out; omega))
  have HO4 := Lib.hid ((HS3.out.2.2.mono (S' := Just ab) fun k h => h.elim).trans j4)
  have HC4 := Lib.hid (HC3.out.far' j4 fun k hk e => HCB.out k hk e)
  have hR4 := HR3.out.only j4 fun k hk e => by have h1 : k = ab := e; have h2 := HK3.out k hk; have h3 := HS2.out.2.2.size; have h4 := HLT.out; have h5 := HMB.out; have h6 : W2.drew.heap.size = W2.heap.size := rfl; omega
  have HR4 := Lib.hid hR4
  have HK4 := Lib.hid (show ∀ k, ownB v k → w.heap.size ≤ k from fun k hk => Nat.le_trans HS2.out.2.2.size (HK3.out k hk))
  clear j4 hwr y20 g20 hR4
  generalize W3.setCell ⟨ab, 20, none⟩ (.int .i64 (rd + 1)) = W4 at *
  have z5 : W4.cell? ⟨mb, 5, none⟩ = some (.int .i64 (m.f 5)) := HM4b.out.cellAt rfl
  have z6 : W4.cell? ⟨mb, 6, none⟩ = some (.int .i64 (m.f 6)) := HM4b.out.cellAt rfl
  have HKP := Lib.hid (arr_keep_no (m.f 5) (m.f 6) v HM4.out HL.out HA4.out HC4.out HNB.out)
  go_upto_region 11 with (go_at_call 94; refine HKP.out.mono ?_; rintro e W5 ⟨rfl, ho5⟩)
  have HA5 := Lib.hid (ho5.box HA4.out id)
  have HM5 := Lib.hid (ho5.box HM4b.out id)
  have HO5 := Lib.hid (HO4.out.transN ho5)
  have HR5 := Lib.hid (HR4.out.only ho5 fun _ _ => id)
  clear z5 z6 HKP ho5 HA4 HM4b HO4 HR4
  have z5 : W5.cell? ⟨mb, 5, none⟩ = some (.int .i64 (m.f 5)) := HM5.out.cellAt rfl
  rw [HBK.out] at z5
  obtain ⟨B, cv, hv5, _, _⟩ := HR5.out.shape
  rw [bytes_len0] at hv5
  subst hv5
  have al6 := (Only.refl Non W5).alloc (.cells (bdC b (.slice B t.length cv)) 25)
  have HCN := Lib.hid (cells_new W5 (bdC b (.slice B t.length cv)).toList 25)
  have HOW := Lib.hid (World.ownsRow_nil (W5.alloc (.cells (bdC b (.slice B t.length cv)) 25)) W5.heap.size 25 11)
  have HONE := Lib.hid (show ∀ u ∈ (bdC b (.slice B t.length cv)).toList, u.oneCell' = true by simp [bdC, Value.oneCell'])
  have HA6 := Lib.hid (al6.box HA5.out id)
  have HO6 := Lib.hid (HO5.out.transN al6)
  have HR6 := Lib.hid (HR5.out.only al6 fun _ _ => id)
  have HZ := Lib.hid (show W5.heap.size ≤ (W5.alloc (.cells (bdC b (.slice B t.length cv)) 25)).heap.size from al6.size)
  clear al6
  go_wp2_with (at_builtin; refine wpList_wide _ rfl (.tmp 66) (.tmp 71) 28 25 rfl msgInfo rfl (by decide) Tryz.underlying28 W5.heap.size (.slice none 0 0) 0 [] (bdC b (.slice B t.length cv)).toList rfl HOW.out ⟨W5.heap.size, 0, none⟩ rfl rfl HCN.out HONE.out (by decide) (by decide) HZ.out ?_; intro v7 W7 h7 ho7 _; obtain ⟨g, q, hv7, hg0, hg1, hc7⟩ := ownsRow_cell h7 (by decide); subst hv7; have HO7 := Lib.hid ho7; have HC7 := Lib.hid hc7; have HG := Lib.hid hg0; clear h7 ho7 hc7 hg0 hg1)
  go_ret
  have j7 : Only Non (W5.alloc (.cells (bdC b (.slice B t.length cv)) 25)) W7 := HO7.out.mono fun k hk => (ownB_none hk).elim
  exact ⟨g, q, .slice B t.length cv, rfl, HC7.out, (HR6.out.only j7 fun _ _ => id).byt (by have h1 := HBL.out; have h2 := HS.out.shp.s1; have h3 : (shOf c) 1 = size := HSZ.out; omega), j7.box HA6.out id, HO6.out.transN j7, Nat.le_trans HO5.out.size HG.out⟩
end
end Go.Proofs.YtcphifphidcbaaaGreat
