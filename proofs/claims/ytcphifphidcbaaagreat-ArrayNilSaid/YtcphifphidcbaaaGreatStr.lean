/- The store's reader: read, num, text, all. Printed by str.py. -/
import Derived.Test.YtcphifphidcbaaaGreatSec
import Derived.Test.YtcphifphidcbaaaGreatRdS
import Derived.Test.YtcphifphidcbaaaGreatTail
import Derived.BigQuiet
namespace Go.Proofs.YtcphifphidcbaaaGreat
open Go.RowKit Go.ChangeShapes Go.WideShapes
set_option linter.unusedVariables false
set_option linter.unusedSimpArgs false
/-- reading goes on as long as nothing is wrong -/
def sNum (b : List Int) (p : Nat) (ok : Bool) : Nat × Nat × Bool := if ok = true then ((stNum b p 0).1, (stNum b p 0).2.1, (stNum b p 0).2.2 == 0) else (0, p, false)
def sTxt (size : Nat) (b : List Int) (p : Nat) (ok : Bool) : List Int × Bool :=
  if ok = true then match textR size b p with | .ok (t, j) => (t, ((t.length : Int) == (size : Int)) && ((j : Int) == (b.length : Int))) | .error _ => ([], false) else ([], false)
/-- r is a reader of the bytes b, at p -/
def Rdr' (w : World) (r base : Nat) (b : List Int) (p : Nat) (ok : Bool) : Prop :=
  ∃ A cp, Box w r 221 #[.slice A b.length cp, .int .i64 (p : Nat), .bool ok] ∧ Byt w (.slice A b.length cp) b ∧ (∀ k, ownB (.slice A b.length cp) k → base ≤ k ∧ k ≠ r ∧ k < w.heap.size) ∧ base ≤ r
theorem Rdr'.only {w w' : World} {r base : Nat} {b : List Int} {p : Nat} {ok : Bool} {S : Nat → Prop} (h : Rdr' w r base b p ok) (ho : Only S w w') (hS : ∀ k, base ≤ k → k < w.heap.size → ¬ S k) : Rdr' w' r base b p ok := by
  obtain ⟨A, cp, h1, h2, h3, h4⟩ := h
  exact ⟨A, cp, ho.box h1 (hS r h4 h1.lt), h2.only ho fun k hk => hS k (h3 k hk).1 (h3 k hk).2.2, fun k hk => ⟨(h3 k hk).1, (h3 k hk).2.1, Nat.lt_of_lt_of_le (h3 k hk).2.2 ho.size⟩, h4⟩
/-- a store's cells -/
def stoC (sh : Nat → Int) (db : Nat) : Array Value := #[.int .i64 (sh 0), .int .i64 (sh 1), .int .i64 (sh 2), .int .i64 (sh 3), .pointer (some ⟨db, 0, none⟩)]
section
set_option maxHeartbeats 4000000
set_option maxRecDepth 100000
theorem sto_read {w : World} {db lb : Nat} {V : Nat → Value} {d : DskS} {sb : Nat} {sh : Nat → Int} {at_ : Nat} (hi : at_ < 64) (hs : Box w sb 161 (stoC sh db)) (h : DskB w db lb V d) :
    Calls Tryz.prog 127 #[.pointer (some ⟨sb, 0, none⟩), .int .i64 at_] w fun e w' => ∃ r, e = .returned (.pointer (some ⟨r, 0, none⟩)) ∧ Rdr' w' r w.heap.size (d.sec at_) 0 true ∧ Only Non w w' := by
  have x4 : w.cell? ⟨sb, 4, none⟩ = some (.pointer (some ⟨db, 0, none⟩)) := hs.cellAt rfl
  have HR := Lib.hid (sec_read hi h)
  have HSM := Lib.hid (h.small at_ hi)
  clear hs h
  generalize d.sec at_ = b at *
  go_enter Tryz.func127, Tryz.ntmps127
  go_upto_region 2 with (go_at_call 160; refine HR.out.mono ?_; rintro e W1 ⟨v, rfl, hr, ho, hk⟩; obtain ⟨A, cp, hv, hcp, hmx⟩ := hr.shape; rw [bytes_len0] at hv hcp; subst hv; have HRW := Lib.hid hr; have HO := Lib.hid ho; have HK := Lib.hid hk; clear hr ho hk hcp hmx)
  go_wp2_with fail
  go_ret
  have al := (Only.refl Non W1).alloc (.cells #[.slice A b.length cp, .int .i64 0, .bool true] 221)
  have hby := HRW.out.byt (by have := HSM.out; omega)
  exact ⟨W1.heap.size, rfl, ⟨A, cp, Box.fresh W1 _ _, hby.only al fun _ _ => id, fun k hk => ⟨HK.out k hk, by have := HRW.out.lt hk; omega, by have := HRW.out.lt hk; have := al.size; omega⟩, HO.out.size⟩, HO.out.trans al⟩
theorem snum_any {w : World} {r base : Nat} {b : List Int} {p : Nat} {ok : Bool} (h : Rdr' w r base b p ok) (hp : ok = true → p ≤ b.length) (hb : IsB b) :
    Calls Tryz.prog 129 #[.pointer (some ⟨r, 0, none⟩)] w fun e w' => e = .returned (.int .i64 ((sNum b p ok).1 : Nat)) ∧ Rdr' w' r base b (sNum b p ok).2.1 (sNum b p ok).2.2 ∧ Only (Just r) w w' := by
  obtain ⟨A, cp, h1, h2, h3, h4⟩ := h
  have H1 := Lib.hid h1
  have H2 := Lib.hid h2
  have H3 := Lib.hid h3
  have H4 := Lib.hid h4
  cases ok with
  | true =>
    have HG := Lib.hid (fun n => rawget_any A b.length cp b p (w.drewN n) (h2.only ((Only.refl Non w).drewN n) fun _ _ => id) (hp rfl) (inR_drop hb p))
    rw [getV_num] at HG
    have HN := Lib.hid (show sNum b p true = ((stNum b p 0).1, (stNum b p 0).2.1, (stNum b p 0).2.2 == 0) from rfl)
    rw [HN.out]
    clear HN
    have x0 : w.cell? ⟨r, 0, none⟩ = some (.slice A b.length cp) := h1.cellAt rfl
    have x1 : w.cell? ⟨r, 1, none⟩ = some (.int .i64 (p : Nat)) := h1.cellAt rfl
    have x2 : w.cell? ⟨r, 2, none⟩ = some (.bool true) := h1.cellAt rfl
    have g1 : w.frozen? ⟨r, 1, none⟩ = false := h1.free 1
    have g2 : w.frozen? ⟨r, 2, none⟩ = false := h1.free 2
    clear h1 h2 h3 h4 hp hb
    generalize (stNum b p 0).1 = n1 at *
    generalize (stNum b p 0).2.1 = p1 at *
    generalize (stNum b p 0).2.2 = e1 at *
    go_enter Tryz.func129, Tryz.ntmps129
    go_wp2_with fail
    go_quiet ((go_at_call 161; exact quiet_l (HG.out _)))
    go_wp2
    go_ret
    have j : Only (Just r) w (((w.drewN nq).setCell ⟨r, 1, none⟩ (.int .i64 (p1 : Nat))).setCell ⟨r, 2, none⟩ (.bool (e1 == 0))) := (((Only.refl (Just r) w).drewN nq).setCell (p := ⟨r, 1, none⟩) (.inl rfl) _).setCell (p := ⟨r, 2, none⟩) (.inl rfl) _
    exact ⟨rfl, ⟨A, cp, ((H1.out.drewN nq).store 1 _).store 2 _, H2.out.only j fun k hk e => (H3.out k hk).2.1 e, fun k hk => ⟨(H3.out k hk).1, (H3.out k hk).2.1, Nat.lt_of_lt_of_le (H3.out k hk).2.2 j.size⟩, H4.out⟩, j⟩
  | false =>
    have x2 : w.cell? ⟨r, 2, none⟩ = some (.bool false) := h1.cellAt rfl
    have HN := Lib.hid (show sNum b p false = (0, p, false) from rfl)
    rw [HN.out]
    clear HN h1 h2 h3 h4 hp hb
    go_enter Tryz.func129, Tryz.ntmps129
    go_wp2_with fail
    go_ret
    exact ⟨rfl, ⟨A, cp, H1.out, H2.out, H3.out, H4.out⟩, Only.refl _ _⟩
/-- a text is read -/
def TxPost (w : World) (r base : Nat) (t : List Int) (b : List Int) (p : Nat) (ok : Bool) (e : Ending) (w' : World) : Prop :=
  ∃ v, e = .returned v ∧ Row 5 w' v (bytes t) ∧ (∃ p', Rdr' w' r base b p' ok) ∧ Only (Just r) w w' ∧ ∀ k, ownB v k → w.heap.size ≤ k
theorem stext_off {w : World} {r base : Nat} {b : List Int} {p : Nat} (size : Int) (h : Rdr' w r base b p false) :
    Calls Tryz.prog 130 #[.pointer (some ⟨r, 0, none⟩), .int .i64 size] w (TxPost w r base [] b p false) := by
  have HH := Lib.hid h
  obtain ⟨A, cp, h1, h2, h3, h4⟩ := h
  have x2 : w.cell? ⟨r, 2, none⟩ = some (.bool false) := h1.cellAt rfl
  clear h1 h2 h3 h4
  go_enter Tryz.func130, Tryz.ntmps130
  go_wp2_with fail
  go_ret
  exact ⟨_, rfl, Row.nil_ _ _, ⟨p, HH.out⟩, Only.refl _ _, fun k hk => (ownB_none hk).elim⟩
theorem stext_err {w : World} {r base : Nat} {b : List Int} {p : Nat} (size : Nat) {x : Int} (h : Rdr' w r base b p true) (hp : p ≤ b.length) (hb : IsB b) (ht : textR size b p = .error x) :
    Calls Tryz.prog 130 #[.pointer (some ⟨r, 0, none⟩), .int .i64 size] w (TxPost w r base [] b p false) := by
  obtain ⟨A, cp, h1, h2, h3, h4⟩ := h
  have HX := Lib.hid (textR_ne ht)
  have x0 : w.cell? ⟨r, 0, none⟩ = some (.slice A b.length cp) := h1.cellAt rfl
  have x1 : w.cell? ⟨r, 1, none⟩ = some (.int .i64 (p : Nat)) := h1.cellAt rfl
  have x2 : w.cell? ⟨r, 2, none⟩ = some (.bool true) := h1.cellAt rfl
  have HT := Lib.hid (gettext_err A b.length cp b p size x w.drew (h2.only (Only.refl Non w).drew fun _ _ => id) hp (inR_drop hb p) ht)
  have H1 := Lib.hid h1
  have H2 := Lib.hid h2
  have H3 := Lib.hid h3
  have H4 := Lib.hid h4
  clear h1 h2 h3 h4 hp hb ht
  have i0 : w.drew.cell? ⟨r, 0, none⟩ = some (.slice A b.length cp) := x0
  have i1 : w.drew.cell? ⟨r, 1, none⟩ = some (.int .i64 (p : Nat)) := x1
  go_enter Tryz.func130, Tryz.ntmps130
  go_upto_region 3 with fail
  refine wp_region_tail (S := (fun w' : World => w'.cell? ⟨r, 0, none⟩ = some (.slice A b.length cp) ∧ w'.cell? ⟨r, 1, none⟩ = some (.int .i64 (p : Nat)))) 16 (by kernel_rfl) (by kernel_rfl) ?_ ?_
  · exact ⟨i0, i1⟩
  intro hSS
  refine wpHd_take (i := 0) (v := ?_) (by kernel_rfl) rfl (by kernel_rfl) (fun _ _ _ h => h) (Or.inl ⟨by rfl, ?_⟩) (by assumption) ?_
  rotate_left
  · intro w hSw; (try dsimp only at hSw); go_simp; (try with_reducible rfl)
  try simp only [Act.put, List.getElem_toArray, List.getElem_cons_succ, List.getElem_cons_zero, List.setIfInBounds_toArray, List.set_cons_zero, List.set_cons_succ]
  refine wpHd_take (i := 1) (v := ?_) (by kernel_rfl) rfl (by kernel_rfl) (fun _ _ _ h => h) (Or.inl ⟨by rfl, ?_⟩) (by assumption) ?_
  rotate_left
  · intro w hSw; (try dsimp only at hSw); go_simp; (try with_reducible rfl)
  try simp only [Act.put, List.getElem_toArray, List.getElem_cons_succ, List.getElem_cons_zero, List.setIfInBounds_toArray, List.set_cons_zero, List.set_cons_succ]
  refine wpHd_take (i := 2) (v := ?_) (by kernel_rfl) rfl (by kernel_rfl) (fun _ _ _ h => h) (Or.inl ⟨by rfl, ?_⟩) (by assumption) ?_
  rotate_left
  · intro w hSw; (try dsimp only at hSw); go_simp; (try with_reducible rfl)
  try simp only [Act.put, List.getElem_toArray, List.getElem_cons_succ, List.getElem_cons_zero, List.setIfInBounds_toArray, List.set_cons_zero, List.set_cons_succ]
  refine wpHd_take (i := 3) (v := ?_) (by kernel_rfl) rfl (by kernel_rfl) (fun _ _ _ h => h) (Or.inl ⟨by rfl, ?_⟩) (by assumption) ?_
  rotate_left
  · intro w hSw; (try dsimp only at hSw); go_simp; (try with_reducible rfl)
  try simp only [Act.put, List.getElem_toArray, List.getElem_cons_succ, List.getElem_cons_zero, List.setIfInBounds_toArray, List.set_cons_zero, List.set_cons_succ]
  refine wpHd_take (i := 4) (v := ?_) (by kernel_rfl) rfl (by kernel_rfl) (fun _ _ _ h => h) (Or.inl ⟨by rfl, ?_⟩) (by assumption) ?_
  rotate_left
  · intro w hSw; (try dsimp only at hSw); go_simp; (try with_reducible rfl)
  try simp only [Act.put, List.getElem_toArray, List.getElem_cons_succ, List.getElem_cons_zero, List.setIfInBounds_toArray, List.set_cons_zero, List.set_cons_succ]
  refine wpHd_take (i := 5) (v := ?_) (by kernel_rfl) rfl (by kernel_rfl) (fun _ _ _ h => h) (Or.inl ⟨by rfl, ?_⟩) (by assumption) ?_
  rotate_left
  · intro w hSw; (try dsimp only at hSw); go_simp; (try with_reducible rfl)
  try simp only [Act.put, List.getElem_toArray, List.getElem_cons_succ, List.getElem_cons_zero, List.setIfInBounds_toArray, List.set_cons_zero, List.set_cons_succ]
  refine wpHd_take (i := 6) (v := ?_) (by kernel_rfl) rfl (by kernel_rfl) (fun _ _ _ h => h) (Or.inl ⟨by rfl, ?_⟩) (by assumption) ?_
  rotate_left
  · intro w hSw; (try dsimp only at hSw); go_simp; (try with_reducible rfl)
  try simp only [Act.put, List.getElem_toArray, List.getElem_cons_succ, List.getElem_cons_zero, List.setIfInBounds_toArray, List.set_cons_zero, List.set_cons_succ]
  refine wpHd_take (i := 7) (v := ?_) (by kernel_rfl) rfl (by kernel_rfl) (fun _ _ _ h => h) (Or.inl ⟨by rfl, ?_⟩) (by assumption) ?_
  rotate_left
  · intro w hSw; (try dsimp only at hSw); go_simp; (try with_reducible rfl)
  try simp only [Act.put, List.getElem_toArray, List.getElem_cons_succ, List.getElem_cons_zero, List.setIfInBounds_toArray, List.set_cons_zero, List.set_cons_succ]
  refine wpHd_take (i := 8) (v := ?_) (by kernel_rfl) rfl (by kernel_rfl) (fun _ _ _ h => h) (Or.inl ⟨by rfl, ?_⟩) (by assumption) ?_
  rotate_left
  · intro w hSw; (try dsimp only at hSw); go_simp; (try with_reducible rfl)
  try simp only [Act.put, List.getElem_toArray, List.getElem_cons_succ, List.getElem_cons_zero, List.setIfInBounds_toArray, List.set_cons_zero, List.set_cons_succ]
  refine wpHd_one (i := 9) rfl (by kernel_rfl) (fun K hK => ?_)
  go_simp
  refine HT.out.mono ?_
  rintro e W2 ⟨rfl, rfl⟩
  refine hK.out _ _ ?_ (fun hSS => ?_)
  · exact ⟨i0, i1⟩
  clear hK
  try simp only [Act.put, List.getElem_toArray, List.getElem_cons_succ, List.getElem_cons_zero, List.setIfInBounds_toArray, List.set_cons_zero, List.set_cons_succ]
  refine wpHd_take (i := 10) (v := ?_) (by kernel_rfl) rfl (by kernel_rfl) (fun _ _ _ h => h) (Or.inl ⟨by rfl, ?_⟩) (by assumption) ?_
  rotate_left
  · intro w hSw; (try dsimp only at hSw); go_simp; (try with_reducible rfl)
  try simp only [Act.put, List.getElem_toArray, List.getElem_cons_succ, List.getElem_cons_zero, List.setIfInBounds_toArray, List.set_cons_zero, List.set_cons_succ]
  refine wpHd_take (i := 11) (v := ?_) (by kernel_rfl) rfl (by kernel_rfl) (fun _ _ _ h => h) (Or.inl ⟨by rfl, ?_⟩) (by assumption) ?_
  rotate_left
  · intro w hSw; (try dsimp only at hSw); go_simp; (try with_reducible rfl)
  try simp only [Act.put, List.getElem_toArray, List.getElem_cons_succ, List.getElem_cons_zero, List.setIfInBounds_toArray, List.set_cons_zero, List.set_cons_succ]
  refine wpHd_take (i := 12) (v := ?_) (by kernel_rfl) rfl (by kernel_rfl) (fun _ _ _ h => h) (Or.inl ⟨by rfl, ?_⟩) (by assumption) ?_
  rotate_left
  · intro w hSw; (try dsimp only at hSw); go_simp; (try with_reducible rfl)
  try simp only [Act.put, List.getElem_toArray, List.getElem_cons_succ, List.getElem_cons_zero, List.setIfInBounds_toArray, List.set_cons_zero, List.set_cons_succ]
  refine wpHd_take (i := 13) (v := ?_) (by kernel_rfl) rfl (by kernel_rfl) (fun _ _ _ h => h) (Or.inl ⟨by rfl, ?_⟩) (by assumption) ?_
  rotate_left
  · intro w hSw; (try dsimp only at hSw); go_simp; (try with_reducible rfl)
  try simp only [Act.put, List.getElem_toArray, List.getElem_cons_succ, List.getElem_cons_zero, List.setIfInBounds_toArray, List.set_cons_zero, List.set_cons_succ]
  refine wpHd_take (i := 14) (v := ?_) (by kernel_rfl) rfl (by kernel_rfl) (fun _ _ _ h => h) (Or.inl ⟨by rfl, ?_⟩) (by assumption) ?_
  rotate_left
  · intro w hSw; (try dsimp only at hSw); go_simp; (try with_reducible rfl)
  try simp only [Act.put, List.getElem_toArray, List.getElem_cons_succ, List.getElem_cons_zero, List.setIfInBounds_toArray, List.set_cons_zero, List.set_cons_succ]
  refine wpHd_take (i := 15) (v := ?_) (by kernel_rfl) rfl (by kernel_rfl) (fun _ _ _ h => h) (Or.inl ⟨by rfl, ?_⟩) (by assumption) ?_
  rotate_left
  · intro w hSw; (try dsimp only at hSw); go_simp; (try with_reducible rfl)
  try simp only [Act.put, List.getElem_toArray, List.getElem_cons_succ, List.getElem_cons_zero, List.setIfInBounds_toArray, List.set_cons_zero, List.set_cons_succ]
  refine wpHd_end (by kernel_rfl) ?_
  have g2 : w.drew.frozen? ⟨r, 2, none⟩ = false := H1.out.free 2
  have hxb : (x == 0) = false := by simpa using HX.out
  have y2 : w.drew.cell? ⟨r, 2, none⟩ = some (.bool true) := x2
  clear hSS i0 i1 x0 x1 x2
  go_wp2_with fail
  go_ret
  have j : Only (Just r) w (w.drew.setCell ⟨r, 2, none⟩ (.bool false)) := ((Only.refl (Just r) w).drew).setCell (p := ⟨r, 2, none⟩) (.inl rfl) _
  exact ⟨_, rfl, Row.nil_ _ _, ⟨p, A, cp, H1.out.drew.store 2 _, H2.out.only j fun k hk e => (H3.out k hk).2.1 e, fun k hk => ⟨(H3.out k hk).1, (H3.out k hk).2.1, Nat.lt_of_lt_of_le (H3.out k hk).2.2 j.size⟩, H4.out⟩, j, fun k hk => (ownB_none hk).elim⟩
theorem stext_ok {w : World} {r base : Nat} {b : List Int} {p : Nat} (size : Nat) {t : List Int} {q : Nat} (h : Rdr' w r base b p true) (hp : p ≤ b.length) (hb : IsB b) (ht : textR size b p = .ok (t, q)) :
    Calls Tryz.prog 130 #[.pointer (some ⟨r, 0, none⟩), .int .i64 size] w (TxPost w r base t b p (((t.length : Int) == (size : Int)) && ((q : Int) == (b.length : Int)))) := by
  obtain ⟨A, cp, h1, h2, h3, h4⟩ := h
  have x0 : w.cell? ⟨r, 0, none⟩ = some (.slice A b.length cp) := h1.cellAt rfl
  have x1 : w.cell? ⟨r, 1, none⟩ = some (.int .i64 (p : Nat)) := h1.cellAt rfl
  have x2 : w.cell? ⟨r, 2, none⟩ = some (.bool true) := h1.cellAt rfl
  have HT := Lib.hid (gettext_ok A b.length cp b p size t q w.drew (h2.only (Only.refl Non w).drew fun _ _ => id) hp (inR_drop hb p) ht)
  have H1 := Lib.hid h1
  have H2 := Lib.hid h2
  have H3 := Lib.hid h3
  have H4 := Lib.hid h4
  clear h1 h2 h3 h4 hp hb ht
  have i0 : w.drew.cell? ⟨r, 0, none⟩ = some (.slice A b.length cp) := x0
  have i1 : w.drew.cell? ⟨r, 1, none⟩ = some (.int .i64 (p : Nat)) := x1
  generalize hc1 : ((t.length : Int) == (size : Int)) = c1 at *
  generalize hc2 : ((q : Int) == (b.length : Int)) = c2 at *
  have C1 := Lib.hid hc1
  have C2 := Lib.hid hc2
  clear hc1 hc2
  go_enter Tryz.func130, Tryz.ntmps130
  go_upto_region 3 with fail
  refine wp_region_tail (S := (fun w' : World => w'.cell? ⟨r, 0, none⟩ = some (.slice A b.length cp) ∧ w'.cell? ⟨r, 1, none⟩ = some (.int .i64 (p : Nat)))) 16 (by kernel_rfl) (by kernel_rfl) ?_ ?_
  · first | exact hS2 | exact ⟨i0, i1⟩
  intro hSS
  refine wpHd_take (i := 0) (v := ?_) (by kernel_rfl) rfl (by kernel_rfl) (fun _ _ _ h => h) (Or.inl ⟨by rfl, ?_⟩) (by assumption) ?_
  rotate_left
  · intro w hSw; (try dsimp only at hSw); go_simp; (try with_reducible rfl)
  try simp only [Act.put, List.getElem_toArray, List.getElem_cons_succ, List.getElem_cons_zero, List.setIfInBounds_toArray, List.set_cons_zero, List.set_cons_succ]
  refine wpHd_take (i := 1) (v := ?_) (by kernel_rfl) rfl (by kernel_rfl) (fun _ _ _ h => h) (Or.inl ⟨by rfl, ?_⟩) (by assumption) ?_
  rotate_left
  · intro w hSw; (try dsimp only at hSw); go_simp; (try with_reducible rfl)
  try simp only [Act.put, List.getElem_toArray, List.getElem_cons_succ, List.getElem_cons_zero, List.setIfInBounds_toArray, List.set_cons_zero, List.set_cons_succ]
  refine wpHd_take (i := 2) (v := ?_) (by kernel_rfl) rfl (by kernel_rfl) (fun _ _ _ h => h) (Or.inl ⟨by rfl, ?_⟩) (by assumption) ?_
  rotate_left
  · intro w hSw; (try dsimp only at hSw); go_simp; (try with_reducible rfl)
  try simp only [Act.put, List.getElem_toArray, List.getElem_cons_succ, List.getElem_cons_zero, List.setIfInBounds_toArray, List.set_cons_zero, List.set_cons_succ]
  refine wpHd_take (i := 3) (v := ?_) (by kernel_rfl) rfl (by kernel_rfl) (fun _ _ _ h => h) (Or.inl ⟨by rfl, ?_⟩) (by assumption) ?_
  rotate_left
  · intro w hSw; (try dsimp only at hSw); go_simp; (try with_reducible rfl)
  try simp only [Act.put, List.getElem_toArray, List.getElem_cons_succ, List.getElem_cons_zero, List.setIfInBounds_toArray, List.set_cons_zero, List.set_cons_succ]
  refine wpHd_take (i := 4) (v := ?_) (by kernel_rfl) rfl (by kernel_rfl) (fun _ _ _ h => h) (Or.inl ⟨by rfl, ?_⟩) (by assumption) ?_
  rotate_left
  · intro w hSw; (try dsimp only at hSw); go_simp; (try with_reducible rfl)
  try simp only [Act.put, List.getElem_toArray, List.getElem_cons_succ, List.getElem_cons_zero, List.setIfInBounds_toArray, List.set_cons_zero, List.set_cons_succ]
  refine wpHd_take (i := 5) (v := ?_) (by kernel_rfl) rfl (by kernel_rfl) (fun _ _ _ h => h) (Or.inl ⟨by rfl, ?_⟩) (by assumption) ?_
  rotate_left
  · intro w hSw; (try dsimp only at hSw); go_simp; (try with_reducible rfl)
  try simp only [Act.put, List.getElem_toArray, List.getElem_cons_succ, List.getElem_cons_zero, List.setIfInBounds_toArray, List.set_cons_zero, List.set_cons_succ]
  refine wpHd_take (i := 6) (v := ?_) (by kernel_rfl) rfl (by kernel_rfl) (fun _ _ _ h => h) (Or.inl ⟨by rfl, ?_⟩) (by assumption) ?_
  rotate_left
  · intro w hSw; (try dsimp only at hSw); go_simp; (try with_reducible rfl)
  try simp only [Act.put, List.getElem_toArray, List.getElem_cons_succ, List.getElem_cons_zero, List.setIfInBounds_toArray, List.set_cons_zero, List.set_cons_succ]
  refine wpHd_take (i := 7) (v := ?_) (by kernel_rfl) rfl (by kernel_rfl) (fun _ _ _ h => h) (Or.inl ⟨by rfl, ?_⟩) (by assumption) ?_
  rotate_left
  · intro w hSw; (try dsimp only at hSw); go_simp; (try with_reducible rfl)
  try simp only [Act.put, List.getElem_toArray, List.getElem_cons_succ, List.getElem_cons_zero, List.setIfInBounds_toArray, List.set_cons_zero, List.set_cons_succ]
  refine wpHd_take (i := 8) (v := ?_) (by kernel_rfl) rfl (by kernel_rfl) (fun _ _ _ h => h) (Or.inl ⟨by rfl, ?_⟩) (by assumption) ?_
  rotate_left
  · intro w hSw; (try dsimp only at hSw); go_simp; (try with_reducible rfl)
  try simp only [Act.put, List.getElem_toArray, List.getElem_cons_succ, List.getElem_cons_zero, List.setIfInBounds_toArray, List.set_cons_zero, List.set_cons_succ]
  refine wpHd_one (i := 9) rfl (by kernel_rfl) (fun K hK => ?_)
  go_simp
  refine HT.out.mono ?_
  rintro e W2 ⟨v, rfl, hr2, ho2, hk2⟩
  obtain ⟨A2, cp2, hv2, _, _⟩ := hr2.shape
  rw [bytes_len0] at hv2
  subst hv2
  have HRW := Lib.hid hr2
  have HO2 := Lib.hid ho2
  have HK2 := Lib.hid hk2
  have hS2 : W2.cell? ⟨r, 0, none⟩ = some (.slice A b.length cp) ∧ W2.cell? ⟨r, 1, none⟩ = some (.int .i64 (p : Nat)) := ⟨ho2.cell i0 id, ho2.cell i1 id⟩
  clear hr2 ho2 hk2
  refine hK.out _ _ ?_ (fun hSS => ?_)
  · first | exact hS2 | exact ⟨i0, i1⟩
  clear hK
  try simp only [Act.put, List.getElem_toArray, List.getElem_cons_succ, List.getElem_cons_zero, List.setIfInBounds_toArray, List.set_cons_zero, List.set_cons_succ]
  refine wpHd_take (i := 10) (v := ?_) (by kernel_rfl) rfl (by kernel_rfl) (fun _ _ _ h => h) (Or.inl ⟨by rfl, ?_⟩) (by assumption) ?_
  rotate_left
  · intro w hSw; (try dsimp only at hSw); go_simp; (try with_reducible rfl)
  try simp only [Act.put, List.getElem_toArray, List.getElem_cons_succ, List.getElem_cons_zero, List.setIfInBounds_toArray, List.set_cons_zero, List.set_cons_succ]
  refine wpHd_take (i := 11) (v := ?_) (by kernel_rfl) rfl (by kernel_rfl) (fun _ _ _ h => h) (Or.inl ⟨by rfl, ?_⟩) (by assumption) ?_
  rotate_left
  · intro w hSw; (try dsimp only at hSw); go_simp; (try with_reducible rfl)
  try simp only [Act.put, List.getElem_toArray, List.getElem_cons_succ, List.getElem_cons_zero, List.setIfInBounds_toArray, List.set_cons_zero, List.set_cons_succ]
  refine wpHd_take (i := 12) (v := ?_) (by kernel_rfl) rfl (by kernel_rfl) (fun _ _ _ h => h) (Or.inl ⟨by rfl, ?_⟩) (by assumption) ?_
  rotate_left
  · intro w hSw; (try dsimp only at hSw); go_simp; (try with_reducible rfl)
  try simp only [Act.put, List.getElem_toArray, List.getElem_cons_succ, List.getElem_cons_zero, List.setIfInBounds_toArray, List.set_cons_zero, List.set_cons_succ]
  refine wpHd_take (i := 13) (v := ?_) (by kernel_rfl) rfl (by kernel_rfl) (fun _ _ _ h => h) (Or.inl ⟨by rfl, ?_⟩) (by assumption) ?_
  rotate_left
  · intro w hSw; (try dsimp only at hSw); go_simp; (try with_reducible rfl)
  try simp only [Act.put, List.getElem_toArray, List.getElem_cons_succ, List.getElem_cons_zero, List.setIfInBounds_toArray, List.set_cons_zero, List.set_cons_succ]
  refine wpHd_take (i := 14) (v := ?_) (by kernel_rfl) rfl (by kernel_rfl) (fun _ _ _ h => h) (Or.inl ⟨by rfl, ?_⟩) (by assumption) ?_
  rotate_left
  · intro w hSw; (try dsimp only at hSw); go_simp; (try with_reducible rfl)
  try simp only [Act.put, List.getElem_toArray, List.getElem_cons_succ, List.getElem_cons_zero, List.setIfInBounds_toArray, List.set_cons_zero, List.set_cons_succ]
  refine wpHd_take (i := 15) (v := ?_) (by kernel_rfl) rfl (by kernel_rfl) (fun _ _ _ h => h) (Or.inl ⟨by rfl, ?_⟩) (by assumption) ?_
  rotate_left
  · intro w hSw; (try dsimp only at hSw); go_simp; (try with_reducible rfl)
  try simp only [Act.put, List.getElem_toArray, List.getElem_cons_succ, List.getElem_cons_zero, List.setIfInBounds_toArray, List.set_cons_zero, List.set_cons_succ]
  refine wpHd_end (by kernel_rfl) ?_
  have g2 : W2.frozen? ⟨r, 2, none⟩ = false := (HO2.out.box H1.out.drew id).free 2
  have y0 : W2.cell? ⟨r, 0, none⟩ = some (.slice A b.length cp) := hSS.1
  have y2 : W2.cell? ⟨r, 2, none⟩ = some (.bool true) := HO2.out.cell (show w.drew.cell? ⟨r, 2, none⟩ = some (.bool true) from x2) id
  have c1' := C1.out
  have c2' := C2.out
  have j2 : Only (Just r) w W2 := ((Only.refl (Just r) w).drew).transN HO2.out
  have H1' := Lib.hid (HO2.out.box H1.out.drew id)
  have HJ2 := Lib.hid j2
  clear hSS i0 i1 x0 x1 x2 hS2 j2
  cases c1 <;> cases c2
  · go_wp2_with fail
    go_ret
    have j3 : ∀ v, Only (Just r) W2 (W2.setCell ⟨r, 2, none⟩ v) := fun v => (Only.refl (Just r) W2).setCell (p := ⟨r, 2, none⟩) (.inl rfl) _
    have j := HJ2.out.trans (j3 (.bool false))
    exact ⟨_, rfl, HRW.out.only (j3 _) fun k hk e => by have h1 : k = r := e; have := HK2.out k hk; have h2 := H1.out.lt; have h3 : w.drew.heap.size = w.heap.size := rfl; omega, ⟨p, A, cp, H1'.out.store 2 _, H2.out.only j fun k hk e => (H3.out k hk).2.1 e, fun k hk => ⟨(H3.out k hk).1, (H3.out k hk).2.1, Nat.lt_of_lt_of_le (H3.out k hk).2.2 j.size⟩, H4.out⟩, j, fun k hk => HK2.out k hk⟩
  · go_wp2_with fail
    go_ret
    have j3 : ∀ v, Only (Just r) W2 (W2.setCell ⟨r, 2, none⟩ v) := fun v => (Only.refl (Just r) W2).setCell (p := ⟨r, 2, none⟩) (.inl rfl) _
    have j := HJ2.out.trans (j3 (.bool false))
    exact ⟨_, rfl, HRW.out.only (j3 _) fun k hk e => by have h1 : k = r := e; have := HK2.out k hk; have h2 := H1.out.lt; have h3 : w.drew.heap.size = w.heap.size := rfl; omega, ⟨p, A, cp, H1'.out.store 2 _, H2.out.only j fun k hk e => (H3.out k hk).2.1 e, fun k hk => ⟨(H3.out k hk).1, (H3.out k hk).2.1, Nat.lt_of_lt_of_le (H3.out k hk).2.2 j.size⟩, H4.out⟩, j, fun k hk => HK2.out k hk⟩
  · go_wp2_with fail
    go_ret
    have j3 : ∀ v, Only (Just r) W2 (W2.setCell ⟨r, 2, none⟩ v) := fun v => (Only.refl (Just r) W2).setCell (p := ⟨r, 2, none⟩) (.inl rfl) _
    have j := HJ2.out.trans (j3 (.bool false))
    exact ⟨_, rfl, HRW.out.only (j3 _) fun k hk e => by have h1 : k = r := e; have := HK2.out k hk; have h2 := H1.out.lt; have h3 : w.drew.heap.size = w.heap.size := rfl; omega, ⟨p, A, cp, H1'.out.store 2 _, H2.out.only j fun k hk e => (H3.out k hk).2.1 e, fun k hk => ⟨(H3.out k hk).1, (H3.out k hk).2.1, Nat.lt_of_lt_of_le (H3.out k hk).2.2 j.size⟩, H4.out⟩, j, fun k hk => HK2.out k hk⟩
  · go_wp2_with fail
    go_ret
    have j3 : ∀ v, Only (Just r) W2 (W2.setCell ⟨r, 2, none⟩ v) := fun v => (Only.refl (Just r) W2).setCell (p := ⟨r, 2, none⟩) (.inl rfl) _
    have j := HJ2.out.trans (j3 (.bool true))
    exact ⟨_, rfl, HRW.out.only (j3 _) fun k hk e => by have h1 : k = r := e; have := HK2.out k hk; have h2 := H1.out.lt; have h3 : w.drew.heap.size = w.heap.size := rfl; omega, ⟨p, A, cp, H1'.out.store 2 _, H2.out.only j fun k hk e => (H3.out k hk).2.1 e, fun k hk => ⟨(H3.out k hk).1, (H3.out k hk).2.1, Nat.lt_of_lt_of_le (H3.out k hk).2.2 j.size⟩, H4.out⟩, j, fun k hk => HK2.out k hk⟩
theorem stext_any {w : World} {r base : Nat} {b : List Int} {p : Nat} {ok : Bool} (size : Nat) (h : Rdr' w r base b p ok) (hp : ok = true → p ≤ b.length) (hb : IsB b) :
    Calls Tryz.prog 130 #[.pointer (some ⟨r, 0, none⟩), .int .i64 size] w (TxPost w r base (sTxt size b p ok).1 b p (sTxt size b p ok).2) := by
  cases ok with
  | false => exact stext_off size h
  | true =>
    unfold sTxt
    rw [if_pos rfl]
    cases ht : textR size b p with
    | ok q => obtain ⟨t, j⟩ := q; exact stext_ok size h (hp rfl) hb ht
    | error x => exact stext_err size h (hp rfl) hb ht
theorem sNum_le {b : List Int} {p : Nat} {ok : Bool} (hp : ok = true → p ≤ b.length) (h : (sNum b p ok).2.2 = true) : (sNum b p ok).2.1 ≤ b.length := by
  unfold sNum at h ⊢
  cases ok with
  | false => simp at h
  | true =>
    simp only [if_true] at h ⊢
    exact stNum_le (fun _ => hp rfl) (by simpa using h)
end
end Go.Proofs.YtcphifphidcbaaaGreat
