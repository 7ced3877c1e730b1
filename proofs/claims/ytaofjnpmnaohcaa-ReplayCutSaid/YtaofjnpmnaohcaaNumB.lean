/- conf.hint: a hint is read. Printed by numb.py. -/
import Derived.Test.YtaofjnpmnaohcaaNumA
import Derived.Laws.Rows
namespace Go.Proofs.Ytaofjnpmnaohcaa
open Go.RowKit
set_option linter.unusedVariables false
set_option linter.unusedSimpArgs false
section
variable {P : Program}
theorem results_row_tmp {fn : Func} {p u : Tmp} {ty : TypeId} (h : fn.results = #[.cell p ty, .tmp u]) (tmps : Array Value) (w : World) (g : Nat) (t : TypeId) (cs : Array Value) (d : TypeDesc)
    (hp : tmps.getD p undef = .pointer (some ⟨g, 0, none⟩)) (hg : Box w g t cs)
    (hu : P.underlying ty = some d) (hd : (match d with | .struct _ | .array _ _ => true | _ => false) = true) (hi : (P.info? ty).map (·.size) = some cs.size) :
    (results fn tmps).run P w = .ok (.tuple #[.agg cs, tmps.getD u undef]) w := by
  have hp' : tmps[p]?.getD undef = .pointer (some ⟨g, 0, none⟩) := by simpa using hp
  simp [results, h, hp', asAddr, run_loadVar_row w g t ty cs (0, 0) d hg hu hd hi, Sem.run_bind, Result.andThen]
theorem results_row_tmp2 {fn : Func} {p u u2 : Tmp} {ty : TypeId} (h : fn.results = #[.cell p ty, .tmp u, .tmp u2]) (tmps : Array Value) (w : World) (g : Nat) (t : TypeId) (cs : Array Value) (d : TypeDesc)
    (hp : tmps.getD p undef = .pointer (some ⟨g, 0, none⟩)) (hg : Box w g t cs)
    (hu : P.underlying ty = some d) (hd : (match d with | .struct _ | .array _ _ => true | _ => false) = true) (hi : (P.info? ty).map (·.size) = some cs.size) :
    (results fn tmps).run P w = .ok (.tuple #[.agg cs, tmps.getD u undef, tmps.getD u2 undef]) w := by
  have hp' : tmps[p]?.getD undef = .pointer (some ⟨g, 0, none⟩) := by simpa using hp
  simp [results, h, hp', asAddr, run_loadVar_row w g t ty cs (0, 0) d hg hu hd hi, Sem.run_bind, Result.andThen]
end
theorem chain4 (w0 w2 : World) (G : Nat) (ty : TypeId) (a0 a1 a2 a3 v0 v1 v2 v3 : Value) (hb : Box w2 G ty #[a0, a1, a2, a3]) (ho : Only Non w0 w2) (hG : w0.heap.size ≤ G) :
    ∃ w3, ((((w2.setCell ⟨G, 0, none⟩ v0).setCell ⟨G, 1, none⟩ v1).setCell ⟨G, 2, none⟩ v2).setCell ⟨G, 3, none⟩ v3) = w3 ∧ Box w3 G ty #[v0, v1, v2, v3] ∧ Only Non w0 w3 ∧ Only (Just G) w2 w3 := by
  refine ⟨_, rfl, ?_, ?_, ?_⟩
  · have h0 := hb
    have h1 := h0.store 0 v0
    simp only [List.setIfInBounds_toArray, List.set_cons_zero, List.set_cons_succ] at h1
    have h2 := h1.store 1 v1
    simp only [List.setIfInBounds_toArray, List.set_cons_zero, List.set_cons_succ] at h2
    have h3 := h2.store 2 v2
    simp only [List.setIfInBounds_toArray, List.set_cons_zero, List.set_cons_succ] at h3
    have h4 := h3.store 3 v3
    simp only [List.setIfInBounds_toArray, List.set_cons_zero, List.set_cons_succ] at h4
    exact h4
  · have h0 := ho
    have h1 := h0.setCell (p := ⟨G, 0, none⟩) (.inr hG) v0
    have h2 := h1.setCell (p := ⟨G, 1, none⟩) (.inr hG) v1
    have h3 := h2.setCell (p := ⟨G, 2, none⟩) (.inr hG) v2
    have h4 := h3.setCell (p := ⟨G, 3, none⟩) (.inr hG) v3
    exact h4
  · have h0 := Only.refl (Just G) w2
    have h1 := h0.setCell (p := ⟨G, 0, none⟩) (.inl rfl) v0
    have h2 := h1.setCell (p := ⟨G, 1, none⟩) (.inl rfl) v1
    have h3 := h2.setCell (p := ⟨G, 2, none⟩) (.inl rfl) v2
    have h4 := h3.setCell (p := ⟨G, 3, none⟩) (.inl rfl) v3
    exact h4
theorem getD_app (a b : List Int) (k : Nat) : (a ++ b).getD (a.length + k) 0 = b.getD k 0 := by
  simp only [List.getD_eq_getElem?_getD, List.getElem?_append_right (Nat.le_add_right _ _), Nat.add_sub_cancel_left]
theorem getD_app0 (a b : List Int) : (a ++ b).getD a.length 0 = b.getD 0 0 := getD_app a b 0
def hNat (h : HintA) : List Nat := [h.fr.toNat, h.size.toNat, h.often.toNat]
theorem hintB_cat (h : HintA) : hintB h = catN (hNat h) ++ truthB h.loop := by
  unfold hintB
  rw [numsB_succ, numsB_succ, numsB_succ, numsB_zero]
  simp only [catN, hNat, List.flatMap_cons, List.flatMap_nil, List.nil_append, List.append_nil, List.append_assoc]
  rfl
def hGot (h : HintA) (k : Nat) : Array Value := #[.int .i64 (if 0 < k then h.fr.toNat else 0 : Nat), .int .i64 (if 1 < k then h.size.toNat else 0 : Nat), .int .i64 (if 2 < k then h.often.toNat else 0 : Nat), .bool false]
def HgI (h : HintA) (hb : Nat) (w2 : World) (k : Nat) (wr : World) : Prop := Box wr hb 66 (hGot h k) ∧ Only (Just hb) w2 wr
theorem hGot_step (h : HintA) {k : Nat} (hk : k < 3) : (hGot h k).setIfInBounds k (.int .i64 ((hNat h).getD k 0 : Nat)) = hGot h (k + 1) := by
  rcases (show k = 0 ∨ k = 1 ∨ k = 2 from by omega) with rfl | rfl | rfl <;> rfl
theorem hGot_some (h : HintA) {k : Nat} (hk : k < 3) (j : Nat) : ∃ u, (hGot h j)[k]? = some u := by
  rcases (show k = 0 ∨ k = 1 ∨ k = 2 from by omega) with rfl | rfl | rfl <;> exact ⟨_, rfl⟩
theorem hptr_at (hb : Nat) {k : Nat} (hk : k < 3) : (#[Value.pointer (some ⟨hb, 0, none⟩), .pointer (some ⟨hb, 1, none⟩), .pointer (some ⟨hb, 2, none⟩)] : Array Value)[k]? = some (.pointer (some ⟨hb, k, none⟩)) := by
  rcases (show k = 0 ∨ k = 1 ∨ k = 2 from by omega) with rfl | rfl | rfl <;> rfl
section
set_option maxHeartbeats 2000000
set_option maxRecDepth 100000
theorem hint_any (A : Option Addr) (n c : Nat) (b pre post : List Int) (h : HintA) (w : World) (hby : Byt w (.slice A n c) b) (hb : b = pre ++ (hintB h ++ post)) (hok : (0 ≤ h.fr ∧ h.fr ≤ 2147483647) ∧ (0 ≤ h.size ∧ h.size ≤ 2147483647) ∧ (0 ≤ h.often ∧ h.often ≤ 2147483647)) :
    Calls Try.prog 38 #[.slice A n c, .int .i64 pre.length] w fun e w' => e = .returned (.tuple #[.agg #[.int .i64 h.fr, .int .i64 h.size, .int .i64 h.often, .bool h.loop], .int .i64 (pre.length + (hintB h).length : Nat), .int .i64 0]) ∧ Only Non w w' := by
  have hlen := hby.len
  have hs3 : h.fr = (h.fr.toNat : Nat) ∧ h.size = (h.size.toNat : Nat) ∧ h.often = (h.often.toNat : Nat) := by omega
  have Hs3 := Lib.hid hs3
  have Hv := Lib.hid (show ∀ k, k < (hNat h).length → (hNat h).getD k 0 < 2 ^ 63 from fun k hk => by
    rcases (show k = 0 ∨ k = 1 ∨ k = 2 from by simp [hNat] at hk; omega) with rfl | rfl | rfl
    · show h.fr.toNat < 2 ^ 63; omega
    · show h.size.toNat < 2 ^ 63; omega
    · show h.often.toNat < 2 ^ 63; omega)
  have Hby := Lib.hid hby
  rw [hintB_cat, List.append_assoc] at hb
  have Hb := Lib.hid hb
  have Hpl := Lib.hid (show (hintB h).length = (catN (hNat h)).length + 1 from by rw [hintB_cat, List.length_append]; cases h.loop <;> rfl)
  have hoff : offN pre (hNat h) (hNat h).length = pre.length + (catN (hNat h)).length := by unfold offN; rw [List.take_length]
  have Hoff := Lib.hid hoff
  have Hblen := Lib.hid (show pre.length + (catN (hNat h)).length < b.length from by rw [hb]; simp only [List.length_append]; cases h.loop <;> simp [truthB] <;> omega)
  have Htv := Lib.hid (show truthV b (pre.length + (catN (hNat h)).length) = .tuple #[.bool h.loop, .int .i64 ((pre.length + (hintB h).length : Nat) : Int), .int .i64 0] from by
    have hg : b.getD (pre.length + (catN (hNat h)).length) 0 = if h.loop then 1 else 0 := by
      rw [hb, getD_app, getD_app0]
      cases h.loop <;> rfl
    unfold truthV
    rw [if_neg (by have := Hblen.out; omega), hg, Hpl.out]
    cases h.loop <;> rfl)
  have hnl := hlen.1
  subst hnl
  have Hhl := Lib.hid (Nat.lt_succ_self w.heap.size)
  let W1 := w.alloc (.cells #[.int .i64 0, .int .i64 0, .int .i64 0, .bool false] 66)
  let W2 := W1.alloc (.cells #[.pointer (some ⟨w.heap.size, 0, none⟩), .pointer (some ⟨w.heap.size, 1, none⟩), .pointer (some ⟨w.heap.size, 2, none⟩)] 64)
  have HB1 : Box W1 w.heap.size 66 (hGot h 0) := Box.fresh w _ _
  have HB2 : Box W2 w.heap.size 66 (hGot h 0) := HB1.alloc _
  have HP2 : Box W2 (w.heap.size + 1) 64 #[.pointer (some ⟨w.heap.size, 0, none⟩), .pointer (some ⟨w.heap.size, 1, none⟩), .pointer (some ⟨w.heap.size, 2, none⟩)] := by
    have := Box.fresh W1 64 #[.pointer (some ⟨w.heap.size, 0, none⟩), .pointer (some ⟨w.heap.size, 1, none⟩), .pointer (some ⟨w.heap.size, 2, none⟩)]
    rwa [show W1.heap.size = w.heap.size + 1 from World.size_alloc _ _] at this
  have HO2 : Only Non w W2 := ((Only.refl Non w).alloc _).alloc _
  have HOI : ∀ {wr}, Only (Just w.heap.size) W2 wr → Only Non w wr := fun ho => HO2.trans' ho fun k hk => .inr (by rw [hk]; exact Nat.le_refl _)
  have HN := Lib.hid (numbers_any A b.length c b pre (truthB h.loop ++ post) (hNat h) (some ⟨w.heap.size + 1, 0, none⟩) 3 3 (fun _ => w.heap.size) (fun k => k) (HgI h w.heap.size W2) W2 rfl (by decide) hb Hv.out ⟨HB2, Only.refl _ _⟩ (fun k wr hk hi => by
    have hk3 : k < 3 := hk
    refine ⟨Hby.out.only (HOI hi.2) fun _ _ => id, ⟨_, _, rfl, ?_⟩, ?_, hi.1.free k, ?_, hi.2.setCell (p := ⟨w.heap.size, k, none⟩) (.inl rfl) _⟩
    · rw [Nat.zero_add]
      exact (hi.2.box HP2 (show ¬ (w.heap.size + 1 = w.heap.size) by omega)).cellAt (hptr_at w.heap.size hk3)
    · obtain ⟨u, hu⟩ := hGot_some h hk3 k
      exact ⟨u, hi.1.cellAt hu⟩
    · rw [← hGot_step h hk3]; exact hi.1.store k _))
  rw [hoff] at HN
  have HOI' := Lib.hid (fun wr => @HOI wr)
  clear HOI HO2 HP2 HB2 HB1
  clear hby hb hok hs3 hoff hlen
  have hqn : pre.length + (catN (hNat h)).length = pre.length + (catN (hNat h)).length := rfl
  generalize hq : pre.length + (catN (hNat h)).length = q at HN Htv Hblen
  have Hq := Lib.hid hq
  clear hq hqn
  generalize hq3 : pre.length + (hintB h).length = q3 at Htv
  have Hq3 := Lib.hid hq3
  clear hq3
  go_enter Try.func38, Try.ntmps38
  go_wp2_with fail
  refine HN.out.mono ?_
  rintro e w3 ⟨rfl, hb3, ho3⟩
  have Ho3 := Lib.hid (HOI'.out w3 ho3)
  have Hb3 := Lib.hid hb3
  have HT := Lib.hid (gettruth_any A b.length c b q w3 (Hby.out.only Ho3.out fun _ _ => id) (by have := Hblen.out; omega))
  rw [Htv.out] at HT
  clear hb3 ho3
  generalize hhb : w.heap.size = hb at *
  have Hhb := Lib.hid hhb
  clear hhb
  have y0 : w3.cell? ⟨hb, 0, none⟩ = some (.int .i64 h.fr) := by rw [Hs3.out.1]; exact Hb3.out.cellAt rfl
  have y1 : w3.cell? ⟨hb, 1, none⟩ = some (.int .i64 h.size) := by rw [Hs3.out.2.1]; exact Hb3.out.cellAt rfl
  have y2 : w3.cell? ⟨hb, 2, none⟩ = some (.int .i64 h.often) := by rw [Hs3.out.2.2]; exact Hb3.out.cellAt rfl
  have y3 : w3.cell? ⟨hb, 3, none⟩ = some (.bool false) := Hb3.out.cellAt rfl
  have f0 : w3.frozen? ⟨hb, 0, none⟩ = false := Hb3.out.free 0
  have f1 : w3.frozen? ⟨hb, 1, none⟩ = false := Hb3.out.free 1
  have f2 : w3.frozen? ⟨hb, 2, none⟩ = false := Hb3.out.free 2
  have f3 : w3.frozen? ⟨hb, 3, none⟩ = false := Hb3.out.free 3
  go_wp2_with fail
  refine HT.out.mono ?_
  rintro e w4 ⟨rfl, e4⟩
  rw [← e4]
  clear e4
  go_wp2_with fail
  have hx : Box (w3.setCell ⟨hb, 3, none⟩ (.bool h.loop)) hb 66 #[.int .i64 h.fr, .int .i64 h.size, .int .i64 h.often, .bool h.loop] := by
    have hs := Hb3.out.store 3 (.bool h.loop)
    have e : (hGot h (hNat h).length).setIfInBounds 3 (.bool h.loop) = #[.int .i64 h.fr, .int .i64 h.size, .int .i64 h.often, .bool h.loop] := by
      show (#[.int .i64 (h.fr.toNat : Nat), .int .i64 (h.size.toNat : Nat), .int .i64 (h.often.toNat : Nat), .bool h.loop] : Array Value) = _
      rw [← Hs3.out.1, ← Hs3.out.2.1, ← Hs3.out.2.2]
    rwa [e] at hs
  have hox : Only Non w (w3.setCell ⟨hb, 3, none⟩ (.bool h.loop)) := Ho3.out.setCell (.inr (by rw [Hhb.out]; exact Nat.le_refl _)) _
  obtain ⟨w9, e9, HB9, ho9, _⟩ := chain4 w _ hb 66 _ _ _ _ (.int .i64 h.fr) (.int .i64 h.size) (.int .i64 h.often) (.bool h.loop) hx hox (by rw [Hhb.out]; exact Nat.le_refl _)
  rw [e9]
  (try simp only [Exit.inBlock, Exit.then])
  refine bodyPost_ret (results_row_tmp2 rfl _ _ hb _ _ _ rfl HB9 Try.underlying66 rfl (by kernel_rfl)) rfl ?_
  exact ⟨by first | rfl | (rw [← Hq3.out]; rfl), ho9⟩
end
end Go.Proofs.Ytaofjnpmnaohcaa
