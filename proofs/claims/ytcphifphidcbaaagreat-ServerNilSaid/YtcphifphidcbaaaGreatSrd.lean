/- A server is asked for a block: ask. Printed by srd.py. -/
import Derived.Test.YtcphifphidcbaaaGreatSrc
import Derived.Test.YtcphifphidcbaaaGreatMsgR
import Derived.Test.YtcphifphidcbaaaGreatRws
import Derived.Test.YtcphifphidcbaaaGreatCla
import Derived.Test.YtcphifphidcbaaaGreatTwo
namespace Go.Proofs.YtcphifphidcbaaaGreat
open Go.RowKit Go.ChangeShapes Go.WideShapes
set_option linter.unusedVariables false
set_option linter.unusedSimpArgs false
def mQ : MsgA := ⟨fun i => [1, 0, 0, 0, 1, 1, 1, 0, 0].getD i 0, false⟩
def rqV : Array Value := #[.int .i64 0, .int .i64 0, .int .i64 1, .int .i64 0, .int .i64 1, .int .i64 1, .int .i64 1, .slice none 0 0]
theorem rqV_one : rqV.all (·.oneCell') = true := by simp [rqV, Value.oneCell']
theorem rqL_one : ∀ u ∈ rqV.toList, u.oneCell' = true := by simp [rqV, Value.oneCell']
theorem reqInfo : (Tryz.prog.info? 120).map (fun i => (i.zero, i.size, i.bytes)) = some (some (.agg #[.int .i64 0, .int .i64 0, .int .i64 0, .int .i64 0, .int .i64 0, .int .i64 0, .int .i64 0, .slice none 0 0]), 8, 80) := by kernel_rfl
def AskRel (W1 : World) (v : Value) (wx : World) : Prop := ∃ rb, v = .pointer (some ⟨rb, 0, none⟩) ∧ Box wx rb 120 rqV ∧ Only Non W1 wx ∧ W1.heap.size ≤ rb
def AskPost (l : Nat) (hv : Value) (s : SrvA) (w : World) (e : Ending) (w' : World) : Prop :=
  e = .returned (.tuple #[]) ∧ ∃ qb q, w.heap.size ≤ qb ∧ 1 ≤ q ∧ Box w' l 115 (srvC lc hv { s with queue := .slice (some ⟨qb, 0, none⟩) 1 q }) ∧ (∀ j u, rqV.toList[j]? = some u → w'.cell? ⟨qb, j, none⟩ = some u) ∧ Only (Just l) w w'
section
set_option maxHeartbeats 4000000
set_option maxRecDepth 100000
variable {l : Nat} {hv : Value} {s : SrvA} {w : World}
theorem clone_nil (w : World) : Calls Tryz.prog 40 #[.slice none 0 0] w fun e w' => e = .returned (.slice none 0 0) ∧ w = w' := by
  have he := fun w => Lib.run_eql_slice_nil (P := Tryz.prog) (w := w)
  go_enter Tryz.func40, Tryz.ntmps40
  go_wp2_with fail
  go_ret
  exact ⟨rfl, rfl⟩
theorem ask_read (hq : s.queue = .slice none 0 0) (h1 : s.boots 0 = 1) (hb : Box w l 115 (srvC lc hv s)) :
    Calls Tryz.prog 98 #[.pointer (some ⟨l, 0, none⟩), .int .i64 0, .agg (msgC mQ (.slice none 0 0))] w (AskPost l hv s w) := by
  have HB := Lib.hid hb
  have HQ := Lib.hid hq
  have HLT := Lib.hid hb.lt
  have x53 : w.cell? ⟨l, 53, none⟩ = some (.int .i64 1) := (srv_cell hb 53 (by decide)).trans (by rw [← h1]; rfl)
  clear hb h1 hq
  go_enter Tryz.func98, Tryz.ntmps98
  go_upto_region 1 with fail
  have HM := Lib.hid (Box.fresh w 25 (msgC mQ (.slice none 0 0)))
  have hO := (Only.refl Non w).alloc (.cells (msgC mQ (.slice none 0 0)) 25)
  have HB1 := Lib.hid (hO.box HB.out id)
  have HO := Lib.hid hO
  change Code.wp _ _ _ _ (w.alloc (.cells (msgC mQ (.slice none 0 0)) 25))
  obtain ⟨mb, hmb⟩ : ∃ mb, mb = w.heap.size := ⟨_, rfl⟩
  rw [← hmb] at HM ⊢
  have HMB := Lib.hid hmb
  have y53 := hO.cell x53 id
  clear hmb hO x53 HB
  generalize w.alloc (.cells (msgC mQ (.slice none 0 0)) 25) = W1 at *
  go_cut [6] (fun v wx => AskRel W1 v wx)
  case first =>
    have x2 : W1.cell? ⟨mb, 2, none⟩ = some (.int .i64 0) := HM.out.cellAt rfl
    have x4 : W1.cell? ⟨mb, 4, none⟩ = some (.int .i64 1) := HM.out.cellAt rfl
    have x5 : W1.cell? ⟨mb, 5, none⟩ = some (.int .i64 1) := HM.out.cellAt rfl
    have x6 : W1.cell? ⟨mb, 6, none⟩ = some (.int .i64 1) := HM.out.cellAt rfl
    have x10 : W1.cell? ⟨mb, 10, none⟩ = some (.slice none 0 0) := HM.out.cellAt rfl
    refine wp_region_tail (S := (fun w' : World => w'.cell? ⟨l, 53, none⟩ = some (.int .i64 1) ∧ w'.cell? ⟨mb, 2, none⟩ = some (.int .i64 0) ∧ w'.cell? ⟨mb, 4, none⟩ = some (.int .i64 1) ∧ w'.cell? ⟨mb, 5, none⟩ = some (.int .i64 1) ∧ w'.cell? ⟨mb, 6, none⟩ = some (.int .i64 1) ∧ w'.cell? ⟨mb, 10, none⟩ = some (.slice none 0 0))) 20 (by kernel_rfl) (by kernel_rfl) ?_ ?_
    · first | exact ⟨y53, x2, x4, x5, x6, x10⟩ | exact hSS | exact ⟨(al _).cell hSS.1 id, (al _).cell hSS.2.1 id, (al _).cell hSS.2.2.1 id, (al _).cell hSS.2.2.2.1 id, (al _).cell hSS.2.2.2.2.1 id, (al _).cell hSS.2.2.2.2.2 id⟩
    intro hSS
    refine wpHd_take (i := 0) (v := ?_) (by kernel_rfl) rfl (by kernel_rfl) (fun _ _ _ h => h) (Or.inl ⟨by rfl, ?_⟩) (by assumption) ?_
    rotate_left
    · intro w hSw; (try dsimp only at hSw); go_simp; (try with_reducible rfl)
    try simp only [Act.put, List.getElem_toArray, List.getElem_cons_succ, List.getElem_cons_zero, List.setIfInBounds_toArray, List.set_cons_zero, List.set_cons_succ]
    refine wpHd_take (i := 1) (v := ?_) (by kernel_rfl) rfl (by kernel_rfl) (fun _ _ _ h => h) (Or.inl ⟨by rfl, ?_⟩) (by assumption) ?_
    rotate_left
    · intro w hSw; (try dsimp only at hSw); go_simp; (try with_reducible rfl)
    try simp only [Act.put, List.getElem_toArray, List.getElem_cons_succ, List.getElem_cons_zero, List.setIfInBounds_toArray, List.set_cons_zero, List.set_cons_succ]
    refine wpHd_take (i := 2) (v := ?_) (by kernel_rfl) rfl (by kernel_rfl) (fun _ _ _ h => h) (Or.inl ⟨by rfl, ?_⟩) (by assumption) ?_
    rotate_left
    · intro w hSw; (try dsimp only at hSw); go_simp; (try with_reducible rfl)
    try simp only [Act.put, List.getElem_toArray, List.getElem_cons_succ, List.getElem_cons_zero, List.setIfInBounds_toArray, List.set_cons_zero, List.set_cons_succ]
    refine wpHd_take (i := 3) (v := ?_) (by kernel_rfl) rfl (by kernel_rfl) (fun _ _ _ h => h) (Or.inl ⟨by rfl, ?_⟩) (by assumption) ?_
    rotate_left
    · intro w hSw; (try dsimp only at hSw); go_simp; (try with_reducible rfl)
    try simp only [Act.put, List.getElem_toArray, List.getElem_cons_succ, List.getElem_cons_zero, List.setIfInBounds_toArray, List.set_cons_zero, List.set_cons_succ]
    refine wpHd_take (i := 4) (v := ?_) (by kernel_rfl) rfl (by kernel_rfl) (fun _ _ _ h => h) (Or.inl ⟨by rfl, ?_⟩) (by assumption) ?_
    rotate_left
    · intro w hSw; (try dsimp only at hSw); go_simp; (try with_reducible rfl)
    try simp only [Act.put, List.getElem_toArray, List.getElem_cons_succ, List.getElem_cons_zero, List.setIfInBounds_toArray, List.set_cons_zero, List.set_cons_succ]
    refine wpHd_take (i := 5) (v := ?_) (by kernel_rfl) rfl (by kernel_rfl) (fun _ _ _ h => h) (Or.inl ⟨by rfl, ?_⟩) (by assumption) ?_
    rotate_left
    · intro w hSw; (try dsimp only at hSw); go_simp; (try with_reducible rfl)
    try simp only [Act.put, List.getElem_toArray, List.getElem_cons_succ, List.getElem_cons_zero, List.setIfInBounds_toArray, List.set_cons_zero, List.set_cons_succ]
    refine wpHd_take (i := 6) (v := ?_) (by kernel_rfl) rfl (by kernel_rfl) (fun _ _ _ h => h) (Or.inl ⟨by rfl, ?_⟩) (by assumption) ?_
    rotate_left
    · intro w hSw; (try dsimp only at hSw); go_simp; (try with_reducible rfl)
    try simp only [Act.put, List.getElem_toArray, List.getElem_cons_succ, List.getElem_cons_zero, List.setIfInBounds_toArray, List.set_cons_zero, List.set_cons_succ]
    refine wpHd_take (i := 7) (v := ?_) (by kernel_rfl) rfl (by kernel_rfl) (fun _ _ _ h => h) (Or.inl ⟨by rfl, ?_⟩) (by assumption) ?_
    rotate_left
    · intro w hSw; (try dsimp only at hSw); go_simp; (try with_reducible rfl)
    try simp only [Act.put, List.getElem_toArray, List.getElem_cons_succ, List.getElem_cons_zero, List.setIfInBounds_toArray, List.set_cons_zero, List.set_cons_succ]
    refine wpHd_take (i := 8) (v := ?_) (by kernel_rfl) rfl (by kernel_rfl) (fun _ _ _ h => h) (Or.inl ⟨by rfl, ?_⟩) (by assumption) ?_
    rotate_left
    · intro w hSw; (try dsimp only at hSw); go_simp; (try with_reducible rfl)
    try simp only [Act.put, List.getElem_toArray, List.getElem_cons_succ, List.getElem_cons_zero, List.setIfInBounds_toArray, List.set_cons_zero, List.set_cons_succ]
    refine wpHd_take (i := 9) (v := ?_) (by kernel_rfl) rfl (by kernel_rfl) (fun _ _ _ h => h) (Or.inl ⟨by rfl, ?_⟩) (by assumption) ?_
    rotate_left
    · intro w hSw; (try dsimp only at hSw); go_simp; (try with_reducible rfl)
    try simp only [Act.put, List.getElem_toArray, List.getElem_cons_succ, List.getElem_cons_zero, List.setIfInBounds_toArray, List.set_cons_zero, List.set_cons_succ]
    refine wpHd_take (i := 10) (v := ?_) (by kernel_rfl) rfl (by kernel_rfl) (fun _ _ _ h => h) (Or.inl ⟨by rfl, ?_⟩) (by assumption) ?_
    rotate_left
    · intro w hSw; (try dsimp only at hSw); go_simp; (try with_reducible rfl)
    try simp only [Act.put, List.getElem_toArray, List.getElem_cons_succ, List.getElem_cons_zero, List.setIfInBounds_toArray, List.set_cons_zero, List.set_cons_succ]
    refine wpHd_take (i := 11) (v := ?_) (by kernel_rfl) rfl (by kernel_rfl) (fun _ _ _ h => h) (Or.inl ⟨by rfl, ?_⟩) (by assumption) ?_
    rotate_left
    · intro w hSw; (try dsimp only at hSw); go_simp; (try with_reducible rfl)
    try simp only [Act.put, List.getElem_toArray, List.getElem_cons_succ, List.getElem_cons_zero, List.setIfInBounds_toArray, List.set_cons_zero, List.set_cons_succ]
    refine wpHd_take (i := 12) (v := ?_) (by kernel_rfl) rfl (by kernel_rfl) (fun _ _ _ h => h) (Or.inl ⟨by rfl, ?_⟩) (by assumption) ?_
    rotate_left
    · intro w hSw; (try dsimp only at hSw); go_simp; (try with_reducible rfl)
    try simp only [Act.put, List.getElem_toArray, List.getElem_cons_succ, List.getElem_cons_zero, List.setIfInBounds_toArray, List.set_cons_zero, List.set_cons_succ]
    refine wpHd_take (i := 13) (v := ?_) (by kernel_rfl) rfl (by kernel_rfl) (fun _ _ _ h => h) (Or.inl ⟨by rfl, ?_⟩) (by assumption) ?_
    rotate_left
    · intro w hSw; (try dsimp only at hSw); go_simp; (try with_reducible rfl)
    try simp only [Act.put, List.getElem_toArray, List.getElem_cons_succ, List.getElem_cons_zero, List.setIfInBounds_toArray, List.set_cons_zero, List.set_cons_succ]
    refine wpHd_take (i := 14) (v := ?_) (by kernel_rfl) rfl (by kernel_rfl) (fun _ _ _ h => h) (Or.inl ⟨by rfl, ?_⟩) (by assumption) ?_
    rotate_left
    · intro w hSw; (try dsimp only at hSw); go_simp; (try with_reducible rfl)
    try simp only [Act.put, List.getElem_toArray, List.getElem_cons_succ, List.getElem_cons_zero, List.setIfInBounds_toArray, List.set_cons_zero, List.set_cons_succ]
    refine wpHd_take (i := 15) (v := ?_) (by kernel_rfl) rfl (by kernel_rfl) (fun _ _ _ h => h) (Or.inl ⟨by rfl, ?_⟩) (by assumption) ?_
    rotate_left
    · intro w hSw; (try dsimp only at hSw); go_simp; (try with_reducible rfl)
    try simp only [Act.put, List.getElem_toArray, List.getElem_cons_succ, List.getElem_cons_zero, List.setIfInBounds_toArray, List.set_cons_zero, List.set_cons_succ]
    refine wpHd_take (i := 16) (v := ?_) (by kernel_rfl) rfl (by kernel_rfl) (fun _ _ _ h => h) (Or.inl ⟨by rfl, ?_⟩) (by assumption) ?_
    rotate_left
    · intro w hSw; (try dsimp only at hSw); go_simp; (try with_reducible rfl)
    try simp only [Act.put, List.getElem_toArray, List.getElem_cons_succ, List.getElem_cons_zero, List.setIfInBounds_toArray, List.set_cons_zero, List.set_cons_succ]
    refine wpHd_two (i := 17) (j := 19) rfl rfl (by kernel_rfl) (fun K hK => ?_) (fun K hK => ?_)
    · go_simp
      refine (clone_nil _).mono ?_
      rintro e W2 ⟨rfl, rfl⟩
      refine hK.out _ _ ?_ (fun hSS => ?_)
      · first | exact ⟨y53, x2, x4, x5, x6, x10⟩ | exact hSS | exact ⟨(al _).cell hSS.1 id, (al _).cell hSS.2.1 id, (al _).cell hSS.2.2.1 id, (al _).cell hSS.2.2.2.1 id, (al _).cell hSS.2.2.2.2.1 id, (al _).cell hSS.2.2.2.2.2 id⟩
      clear hK
      try simp only [Act.put, List.getElem_toArray, List.getElem_cons_succ, List.getElem_cons_zero, List.setIfInBounds_toArray, List.set_cons_zero, List.set_cons_succ]
      refine wpHd_take (i := 18) (v := ?_) (by kernel_rfl) rfl (by kernel_rfl) (fun _ _ _ h => h) (Or.inl ⟨by rfl, ?_⟩) (by assumption) ?_
      rotate_left
      · intro w hSw; (try dsimp only at hSw); go_simp; (try with_reducible rfl)
      try simp only [Act.put, List.getElem_toArray, List.getElem_cons_succ, List.getElem_cons_zero, List.setIfInBounds_toArray, List.set_cons_zero, List.set_cons_succ]
      refine wpHd_one (i := 19) rfl (by kernel_rfl) (fun K hK => ?_)
      go_simp
      have al := fun W : World => (Only.refl Non W).alloc (.cells #[.int .i64 0, .int .i64 0, .int .i64 0, .int .i64 0, .int .i64 0, .int .i64 0, .int .i64 0, .slice none 0 0] 120)
      refine hK.out _ _ ?_ (fun hSS => ?_)
      · first | exact ⟨y53, x2, x4, x5, x6, x10⟩ | exact hSS | exact ⟨(al _).cell hSS.1 id, (al _).cell hSS.2.1 id, (al _).cell hSS.2.2.1 id, (al _).cell hSS.2.2.2.1 id, (al _).cell hSS.2.2.2.2.1 id, (al _).cell hSS.2.2.2.2.2 id⟩
      clear hK
      try simp only [Act.put, List.getElem_toArray, List.getElem_cons_succ, List.getElem_cons_zero, List.setIfInBounds_toArray, List.set_cons_zero, List.set_cons_succ]
      refine wpHd_end (by kernel_rfl) ?_
      refine wpList_store_row rfl 120 _ _ rfl W1.heap.size rqV rfl rfl 120 _ (Box.fresh W1.drew 120 #[.int .i64 0, .int .i64 0, .int .i64 0, .int .i64 0, .int .i64 0, .int .i64 0, .int .i64 0, .slice none 0 0]) (by kernel_rfl) rfl rqV_one ?_
      go_wp2_with fail
      go_meet
      case rel => exact ⟨W1.heap.size, rfl, (Box.fresh W1 120 #[.int .i64 0, .int .i64 0, .int .i64 0, .int .i64 0, .int .i64 0, .int .i64 0, .int .i64 0, .slice none 0 0]).drew.setRow' rqV, (((Only.refl Non W1).alloc _).drew).setRow' (.inr (Nat.le_refl _)) _, Nat.le_refl _⟩
    · go_simp
      have al := fun W : World => (Only.refl Non W).alloc (.cells #[.int .i64 0, .int .i64 0, .int .i64 0, .int .i64 0, .int .i64 0, .int .i64 0, .int .i64 0, .slice none 0 0] 120)
      refine hK.out _ _ ?_ (fun hSS => ?_)
      · first | exact ⟨y53, x2, x4, x5, x6, x10⟩ | exact hSS | exact ⟨(al _).cell hSS.1 id, (al _).cell hSS.2.1 id, (al _).cell hSS.2.2.1 id, (al _).cell hSS.2.2.2.1 id, (al _).cell hSS.2.2.2.2.1 id, (al _).cell hSS.2.2.2.2.2 id⟩
      clear hK
      try simp only [Act.put, List.getElem_toArray, List.getElem_cons_succ, List.getElem_cons_zero, List.setIfInBounds_toArray, List.set_cons_zero, List.set_cons_succ]
      refine wpHd_one (i := 17) rfl (by kernel_rfl) (fun K hK => ?_)
      go_simp
      refine (clone_nil _).mono ?_
      rintro e W2 ⟨rfl, rfl⟩
      refine hK.out _ _ ?_ (fun hSS => ?_)
      · first | exact ⟨y53, x2, x4, x5, x6, x10⟩ | exact hSS | exact ⟨(al _).cell hSS.1 id, (al _).cell hSS.2.1 id, (al _).cell hSS.2.2.1 id, (al _).cell hSS.2.2.2.1 id, (al _).cell hSS.2.2.2.2.1 id, (al _).cell hSS.2.2.2.2.2 id⟩
      clear hK
      try simp only [Act.put, List.getElem_toArray, List.getElem_cons_succ, List.getElem_cons_zero, List.setIfInBounds_toArray, List.set_cons_zero, List.set_cons_succ]
      refine wpHd_take (i := 18) (v := ?_) (by kernel_rfl) rfl (by kernel_rfl) (fun _ _ _ h => h) (Or.inl ⟨by rfl, ?_⟩) (by assumption) ?_
      rotate_left
      · intro w hSw; (try dsimp only at hSw); go_simp; (try with_reducible rfl)
      try simp only [Act.put, List.getElem_toArray, List.getElem_cons_succ, List.getElem_cons_zero, List.setIfInBounds_toArray, List.set_cons_zero, List.set_cons_succ]
      refine wpHd_end (by kernel_rfl) ?_
      refine wpList_store_row rfl 120 _ _ rfl W1.heap.size rqV rfl rfl 120 _ (Box.fresh W1.drew 120 #[.int .i64 0, .int .i64 0, .int .i64 0, .int .i64 0, .int .i64 0, .int .i64 0, .int .i64 0, .slice none 0 0]) (by kernel_rfl) rfl rqV_one ?_
      go_wp2_with fail
      go_meet
      case rel => exact ⟨W1.heap.size, rfl, (Box.fresh W1 120 #[.int .i64 0, .int .i64 0, .int .i64 0, .int .i64 0, .int .i64 0, .int .i64 0, .int .i64 0, .slice none 0 0]).drew.setRow' rqV, (((Only.refl Non W1).alloc _).drew).setRow' (.inr (Nat.le_refl _)) _, Nat.le_refl _⟩
  case rest =>
    obtain ⟨rb, rfl, hrb, horb, hrl⟩ := hcut
    obtain ⟨W2, e2⟩ : ∃ W2, W2 = wc := ⟨_, rfl⟩
    subst e2
    have HR2 := Lib.hid hrb
    have HM2 := Lib.hid (horb.box HM.out id)
    have HB2 := Lib.hid (horb.box HB1.out id)
    have HO2 := Lib.hid (HO.out.trans horb)
    clear hrb horb hrl y53 HM HB1 HO
    have z0 : W2.cell? ⟨mb, 0, none⟩ = some (.int .i64 1) := HM2.out.cellAt rfl
    have z2 : W2.cell? ⟨mb, 2, none⟩ = some (.int .i64 0) := HM2.out.cellAt rfl
    have z5 : W2.cell? ⟨mb, 5, none⟩ = some (.int .i64 1) := HM2.out.cellAt rfl
    have c1 : W2.cell? ⟨l, 1, none⟩ = some (.int .i64 1) := srv_cell HB2.out 1 (by decide)
    have c2 : W2.cell? ⟨l, 2, none⟩ = some (.int .i64 4) := srv_cell HB2.out 2 (by decide)
    have q51 : W2.cell? ⟨l, 51, none⟩ = some (.slice none 0 0) := (srv_cell HB2.out 51 (by decide)).trans (by rw [← HQ.out]; rfl)
    have f51 : W2.frozen? ⟨l, 51, none⟩ = false := HB2.out.free _
    go_upto_region 5 with fail
    have hd : decide ((1 : Int) ≤ 0) = false := by decide
    go_quiet (fail)
    go_wp2_with fail
    have HB3 := Lib.hid (show Box (W2.drewN nq) l 115 (srvC lc hv s) from HB2.out.drewN nq)
    have HR3 := Lib.hid (show Box (W2.drewN nq) rb 120 rqV from HR2.out.drewN nq)
    have HO3 := Lib.hid (HO2.out.drewN nq)
    have q51 : (W2.drewN nq).cell? ⟨l, 51, none⟩ = some (.slice none 0 0) := q51
    generalize W2.drewN nq = W3 at *
    clear z0 z2 z5 c1 c2 f51 hd HB2 HR2 HM2 HO2
    refine wp_region_tail (S := (fun w' : World => w'.cell? ⟨l, 51, none⟩ = some (.slice none 0 0) ∧ Box w' l 115 (srvC lc hv s) ∧ Box w' rb 120 rqV ∧ Only Non w w')) 10 (by kernel_rfl) (by kernel_rfl) ?_ ?_
    · first | exact ⟨q51, HB3.out, HR3.out, HO3.out.drew⟩ | exact hS4 | exact hS7
    intro hSS
    refine wpHd_take (i := 0) (v := ?_) (by kernel_rfl) rfl (by kernel_rfl) (fun _ _ _ h => h) (Or.inl ⟨by rfl, ?_⟩) (by assumption) ?_
    rotate_left
    · intro w hSw; (try dsimp only at hSw); go_simp; (try with_reducible rfl)
    try simp only [Act.put, List.getElem_toArray, List.getElem_cons_succ, List.getElem_cons_zero, List.setIfInBounds_toArray, List.set_cons_zero, List.set_cons_succ]
    refine wpHd_take (i := 1) (v := ?_) (by kernel_rfl) rfl (by kernel_rfl) (fun _ _ _ h => h) (Or.inl ⟨by rfl, ?_⟩) (by assumption) ?_
    rotate_left
    · intro w hSw; (try dsimp only at hSw); go_simp; (try with_reducible rfl)
    try simp only [Act.put, List.getElem_toArray, List.getElem_cons_succ, List.getElem_cons_zero, List.setIfInBounds_toArray, List.set_cons_zero, List.set_cons_succ]
    refine wpHd_take (i := 2) (v := ?_) (by kernel_rfl) rfl (by kernel_rfl) (fun _ _ _ h => h) (Or.inl ⟨by rfl, ?_⟩) (by assumption) ?_
    rotate_left
    · intro w hSw; (try dsimp only at hSw); go_simp; (try with_reducible rfl)
    try simp only [Act.put, List.getElem_toArray, List.getElem_cons_succ, List.getElem_cons_zero, List.setIfInBounds_toArray, List.set_cons_zero, List.set_cons_succ]
    refine wpHd_take (i := 3) (v := ?_) (by kernel_rfl) rfl (by kernel_rfl) (fun _ _ _ h => h) (Or.inl ⟨by rfl, ?_⟩) (by assumption) ?_
    rotate_left
    · intro w hSw; (try dsimp only at hSw); go_simp; (try with_reducible rfl)
    try simp only [Act.put, List.getElem_toArray, List.getElem_cons_succ, List.getElem_cons_zero, List.setIfInBounds_toArray, List.set_cons_zero, List.set_cons_succ]
    refine wpHd_take (i := 4) (v := ?_) (by kernel_rfl) rfl (by kernel_rfl) (fun _ _ _ h => h) (Or.inl ⟨by rfl, ?_⟩) (by assumption) ?_
    rotate_left
    · intro w hSw; (try dsimp only at hSw); go_simp; (try with_reducible rfl)
    try simp only [Act.put, List.getElem_toArray, List.getElem_cons_succ, List.getElem_cons_zero, List.setIfInBounds_toArray, List.set_cons_zero, List.set_cons_succ]
    refine wpHd_take (i := 5) (v := .agg #[.int .i64 0, .int .i64 0, .int .i64 1, .int .i64 0, .int .i64 1, .int .i64 1, .int .i64 1, .slice none 0 0]) (by kernel_rfl) rfl (by kernel_rfl) (fun _ _ _ h => h) (yieldsIf_load_mid (by rfl) 120 _ rfl rb 0 rfl rqV.toList _ (fun w hw j v hj => by rw [Nat.zero_add]; exact hw.2.2.1.cellAt (by rw [← Array.getElem?_toList]; exact hj)) Tryz.underlying120 rfl (by kernel_rfl)) (by assumption) ?_
    try simp only [Act.put, List.getElem_toArray, List.getElem_cons_succ, List.getElem_cons_zero, List.setIfInBounds_toArray, List.set_cons_zero, List.set_cons_succ]
    refine wpHd_one (i := 6) rfl (by kernel_rfl) (fun K hK => ?_)
    go_simp
    have al := (Only.refl Non W3.drew).alloc (.cells #[.int .i64 0, .int .i64 0, .int .i64 1, .int .i64 0, .int .i64 1, .int .i64 1, .int .i64 1, .slice none 0 0] 120)
    have hS4 : (W3.drew.alloc (.cells #[.int .i64 0, .int .i64 0, .int .i64 1, .int .i64 0, .int .i64 1, .int .i64 1, .int .i64 1, .slice none 0 0] 120)).cell? ⟨l, 51, none⟩ = some (.slice none 0 0) ∧ Box (W3.drew.alloc (.cells #[.int .i64 0, .int .i64 0, .int .i64 1, .int .i64 0, .int .i64 1, .int .i64 1, .int .i64 1, .slice none 0 0] 120)) l 115 (srvC lc hv s) ∧ Box (W3.drew.alloc (.cells #[.int .i64 0, .int .i64 0, .int .i64 1, .int .i64 0, .int .i64 1, .int .i64 1, .int .i64 1, .slice none 0 0] 120)) rb 120 rqV ∧ Only Non w (W3.drew.alloc (.cells #[.int .i64 0, .int .i64 0, .int .i64 1, .int .i64 0, .int .i64 1, .int .i64 1, .int .i64 1, .slice none 0 0] 120)) := ⟨al.cell hSS.1 id, al.box hSS.2.1 id, al.box hSS.2.2.1 id, hSS.2.2.2.trans al⟩
    have HCN := Lib.hid (cells_new W3.drew rqV.toList 120)
    refine hK.out _ _ ?_ (fun hSS => ?_)
    · first | exact ⟨q51, HB3.out, HR3.out, HO3.out.drew⟩ | exact hS4 | exact hS7
    clear hK
    try simp only [Act.put, List.getElem_toArray, List.getElem_cons_succ, List.getElem_cons_zero, List.setIfInBounds_toArray, List.set_cons_zero, List.set_cons_succ]
    refine wpHd_one (i := 7) rfl (by kernel_rfl) (fun K hK => ?_)
    refine step_wide _ (by rfl) (.tmp 66) (.tmp 68) 111 120 (by rfl) reqInfo (by rfl) (by decide) Tryz.underlying111 W3.heap.size _ 0 [] rqV.toList (by rfl) (World.ownsRow_nil _ _ _ _) ⟨W3.heap.size, 0, none⟩ (by rfl) (by rfl) HCN.out rqL_one (by decide) (by decide) (by exact al.size) ?_
    intro v7 W7 h7 ho7 _
    have ho7n : Only Non (W3.drew.alloc (.cells #[.int .i64 0, .int .i64 0, .int .i64 1, .int .i64 0, .int .i64 1, .int .i64 1, .int .i64 1, .slice none 0 0] 120)) W7 := ho7.mono fun k hk => (ownB_none hk).elim
    have hS7 : W7.cell? ⟨l, 51, none⟩ = some (.slice none 0 0) ∧ Box W7 l 115 (srvC lc hv s) ∧ Box W7 rb 120 rqV ∧ Only Non w W7 := ⟨ho7n.cell hSS.1 id, ho7n.box hSS.2.1 id, ho7n.box hSS.2.2.1 id, hSS.2.2.2.trans ho7n⟩
    have H7 := Lib.hid h7
    clear h7 ho7 ho7n
    refine hK.out _ _ ?_ (fun hSS => ?_)
    · first | exact ⟨q51, HB3.out, HR3.out, HO3.out.drew⟩ | exact hS4 | exact hS7
    clear hK
    try simp only [Act.put, List.getElem_toArray, List.getElem_cons_succ, List.getElem_cons_zero, List.setIfInBounds_toArray, List.set_cons_zero, List.set_cons_succ]
    refine wpHd_take (i := 8) (v := ?_) (by kernel_rfl) rfl (by kernel_rfl) (fun _ _ _ h => h) (Or.inl ⟨by rfl, ?_⟩) (by assumption) ?_
    rotate_left
    · intro w hSw; (try dsimp only at hSw); go_simp; (try with_reducible rfl)
    try simp only [Act.put, List.getElem_toArray, List.getElem_cons_succ, List.getElem_cons_zero, List.setIfInBounds_toArray, List.set_cons_zero, List.set_cons_succ]
    refine wpHd_take (i := 9) (v := ?_) (by kernel_rfl) rfl (by kernel_rfl) (fun _ _ _ h => h) (Or.inl ⟨by rfl, ?_⟩) (by assumption) ?_
    rotate_left
    · intro w hSw; (try dsimp only at hSw); go_simp; (try with_reducible rfl)
    try simp only [Act.put, List.getElem_toArray, List.getElem_cons_succ, List.getElem_cons_zero, List.setIfInBounds_toArray, List.set_cons_zero, List.set_cons_succ]
    refine wpHd_end (by kernel_rfl) ?_
    obtain ⟨A8, c8, hv8, hc8, _⟩ := row_form H7.out
    obtain ⟨g, c, hv7, hg0, hg1, hc⟩ := ownsRow_cell H7.out (by decide)
    have HCC := Lib.hid (show 1 ≤ c from by rw [hv7] at hv8; injection hv8 with _ _ e; omega)
    clear hv8 hc8
    subst hv7
    have qc : W7.cell? ⟨l, 51, none⟩ = some (.slice none 0 0) := hS7.1
    have qf : W7.frozen? ⟨l, 51, none⟩ = false := hS7.2.1.free _
    have HS7 := Lib.hid hS7
    have HC7 := Lib.hid hc
    have HGL := Lib.hid (show w.heap.size ≤ g ∧ g ≠ l from by have h1 := HO3.out.size; have h2 := HLT.out; omega)
    clear hS7 hc hS4 hSS al q51 HCN H7
    go_wp2_with fail
    go_end0
    have j8 : Only (Just l) W7 (W7.setCell ⟨l, 51, none⟩ (.slice (some ⟨g, 0, none⟩) (0 + 1) c)) := (Only.refl (Just l) W7).setCell (p := ⟨l, 51, none⟩) (.inl (show Just l l from rfl)) _
    have hb8 := HS7.out.2.1.store 51 (.slice (some ⟨g, 0, none⟩) (0 + 1) c)
    rw [srv_queue] at hb8
    exact ⟨rfl, g, c, HGL.out.1, HCC.out, hb8, fun j u hj => j8.cell (HC7.out j u hj) (show ¬ g = l from HGL.out.2), (HS7.out.2.2.2.mono fun k h => h.elim).trans j8⟩
end
end Go.Proofs.YtcphifphidcbaaaGreat
