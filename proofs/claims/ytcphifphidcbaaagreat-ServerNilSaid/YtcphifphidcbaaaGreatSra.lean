/- A server in memory; server.forget, server.New at the least configuration. Printed by sra.py. -/
import Derived.Test.YtcphifphidcbaaaGreatCnw
import Derived.Test.YtcphifphidcbaaaGreatLea
import Derived.Test.YtcphifphidcbaaaGreatTail
namespace Go.Proofs.YtcphifphidcbaaaGreat
open Go.RowKit Go.ChangeShapes Go.WideShapes
set_option linter.unusedVariables false
set_option linter.unusedSimpArgs false
structure SrvA where
  cache : Value
  dir : Value
  below : Nat → Bool
  queue : Value
  cur : Value
  boots : Nat → Int
  up : Bool
  round : Int
  out : Value
def srvF (c : CfgA) (hv : Value) (s : SrvA) (i : Nat) : Value :=
  if i < 16 then .int .i64 (c.f i) else if i = 16 then hv else if i = 17 then s.cache else if i = 18 then s.dir else if i < 51 then .bool (s.below (i - 19)) else if i = 51 then s.queue else if i = 52 then s.cur
  else if i < 57 then .int .i64 (s.boots (i - 53)) else if i = 57 then .bool s.up else if i = 58 then .int .i64 s.round else s.out
def srvC (c : CfgA) (hv : Value) (s : SrvA) : Array Value := Array.ofFn (n := 60) fun i => srvF c hv s i.1
theorem srvC_at (c : CfgA) (hv : Value) (s : SrvA) {i : Nat} (hi : i < 60) : (srvC c hv s)[i]? = some (srvF c hv s i) := by
  simp only [srvC, Array.getElem?_ofFn, hi, dite_true]
theorem srvC_set (c : CfgA) (hv : Value) (s s' : SrvA) (i : Nat) (v : Value) (h : ∀ j, j < 60 → srvF c hv s' j = if j = i then v else srvF c hv s j) : (srvC c hv s).setIfInBounds i v = srvC c hv s' := by
  refine Array.ext (by simp [srvC]) fun j h1 h2 => ?_
  have hj : j < 60 := by simpa [srvC] using h2
  rw [Array.getElem_setIfInBounds (by simpa [srvC] using hj)]
  simp only [srvC, Array.getElem_ofFn]
  rw [h j hj]
  by_cases e : i = j
  · subst e
    rw [if_pos rfl]
  · rw [if_neg e, if_neg (fun e' => e e'.symm)]
theorem srv_dir (c : CfgA) (hv : Value) (s : SrvA) (v : Value) : (srvC c hv s).setIfInBounds 18 v = srvC c hv { s with dir := v } := srvC_set c hv s _ 18 _ fun j hj => by
  by_cases e : j = 18
  · subst e; rfl
  · rw [if_neg e]
    unfold srvF
    by_cases h0 : j < 16
    · simp only [if_pos h0]
    simp only [if_neg h0]
    by_cases h1 : j = 16
    · simp only [if_pos h1]
    simp only [if_neg h1]
    by_cases h2 : j = 17
    · simp only [if_pos h2]
    simp only [if_neg h2]
    by_cases h3 : j = 18
    · exact absurd h3 e
    simp only [if_neg h3]
theorem srv_queue (c : CfgA) (hv : Value) (s : SrvA) (v : Value) : (srvC c hv s).setIfInBounds 51 v = srvC c hv { s with queue := v } := srvC_set c hv s _ 51 _ fun j hj => by
  by_cases e : j = 51
  · subst e; rfl
  · rw [if_neg e]
    unfold srvF
    by_cases h0 : j < 16
    · simp only [if_pos h0]
    simp only [if_neg h0]
    by_cases h1 : j = 16
    · simp only [if_pos h1]
    simp only [if_neg h1]
    by_cases h2 : j = 17
    · simp only [if_pos h2]
    simp only [if_neg h2]
    by_cases h3 : j = 18
    · simp only [if_pos h3]
    simp only [if_neg h3]
    by_cases h4 : j < 51
    · simp only [if_pos h4]
    simp only [if_neg h4]
    by_cases h5 : j = 51
    · exact absurd h5 e
    simp only [if_neg h5]
theorem srv_cur (c : CfgA) (hv : Value) (s : SrvA) (v : Value) : (srvC c hv s).setIfInBounds 52 v = srvC c hv { s with cur := v } := srvC_set c hv s _ 52 _ fun j hj => by
  by_cases e : j = 52
  · subst e; rfl
  · rw [if_neg e]
    unfold srvF
    by_cases h0 : j < 16
    · simp only [if_pos h0]
    simp only [if_neg h0]
    by_cases h1 : j = 16
    · simp only [if_pos h1]
    simp only [if_neg h1]
    by_cases h2 : j = 17
    · simp only [if_pos h2]
    simp only [if_neg h2]
    by_cases h3 : j = 18
    · simp only [if_pos h3]
    simp only [if_neg h3]
    by_cases h4 : j < 51
    · simp only [if_pos h4]
    simp only [if_neg h4]
    by_cases h5 : j = 51
    · simp only [if_pos h5]
    simp only [if_neg h5]
    by_cases h6 : j = 52
    · exact absurd h6 e
    simp only [if_neg h6]
theorem srv_up (c : CfgA) (hv : Value) (s : SrvA) (v : Bool) : (srvC c hv s).setIfInBounds 57 (.bool v) = srvC c hv { s with up := v } := srvC_set c hv s _ 57 _ fun j hj => by
  by_cases e : j = 57
  · subst e; rfl
  · rw [if_neg e]
    unfold srvF
    by_cases h0 : j < 16
    · simp only [if_pos h0]
    simp only [if_neg h0]
    by_cases h1 : j = 16
    · simp only [if_pos h1]
    simp only [if_neg h1]
    by_cases h2 : j = 17
    · simp only [if_pos h2]
    simp only [if_neg h2]
    by_cases h3 : j = 18
    · simp only [if_pos h3]
    simp only [if_neg h3]
    by_cases h4 : j < 51
    · simp only [if_pos h4]
    simp only [if_neg h4]
    by_cases h5 : j = 51
    · simp only [if_pos h5]
    simp only [if_neg h5]
    by_cases h6 : j = 52
    · simp only [if_pos h6]
    simp only [if_neg h6]
    by_cases h7 : j < 57
    · simp only [if_pos h7]
    simp only [if_neg h7]
    by_cases h8 : j = 57
    · exact absurd h8 e
    simp only [if_neg h8]
theorem srv_out (c : CfgA) (hv : Value) (s : SrvA) (v : Value) : (srvC c hv s).setIfInBounds 59 v = srvC c hv { s with out := v } := srvC_set c hv s _ 59 _ fun j hj => by
  by_cases e : j = 59
  · subst e; rfl
  · rw [if_neg e]
    unfold srvF
    by_cases h0 : j < 16
    · simp only [if_pos h0]
    simp only [if_neg h0]
    by_cases h1 : j = 16
    · simp only [if_pos h1]
    simp only [if_neg h1]
    by_cases h2 : j = 17
    · simp only [if_pos h2]
    simp only [if_neg h2]
    by_cases h3 : j = 18
    · simp only [if_pos h3]
    simp only [if_neg h3]
    by_cases h4 : j < 51
    · simp only [if_pos h4]
    simp only [if_neg h4]
    by_cases h5 : j = 51
    · simp only [if_pos h5]
    simp only [if_neg h5]
    by_cases h6 : j = 52
    · simp only [if_pos h6]
    simp only [if_neg h6]
    by_cases h7 : j < 57
    · simp only [if_pos h7]
    simp only [if_neg h7]
    by_cases h8 : j = 57
    · simp only [if_pos h8]
    simp only [if_neg h8]
    by_cases h9 : j = 58
    · simp only [if_pos h9]
    simp only [if_neg h9]
    omega
theorem srv_boot (c : CfgA) (hv : Value) (s : SrvA) (k : Nat) (hk : k < 4) (v : Int) : (srvC c hv s).setIfInBounds (53 + k) (.int .i64 v) = srvC c hv { s with boots := fun b => if b = k then v else s.boots b } := srvC_set c hv s _ _ _ fun j hj => by
  by_cases e : j = 53 + k
  · rw [if_pos e]
    subst e
    unfold srvF
    rw [if_neg (show ¬ 53 + k < 16 by omega)]
    rw [if_neg (show ¬ 53 + k = 16 by omega)]
    rw [if_neg (show ¬ 53 + k = 17 by omega)]
    rw [if_neg (show ¬ 53 + k = 18 by omega)]
    rw [if_neg (show ¬ 53 + k < 51 by omega)]
    rw [if_neg (show ¬ 53 + k = 51 by omega)]
    rw [if_neg (show ¬ 53 + k = 52 by omega)]
    rw [if_pos (show 53 + k < 57 by omega)]
    simp only [show 53 + k - 53 = k by omega, if_true]
  · rw [if_neg e]
    unfold srvF
    by_cases h0 : j < 16
    · simp only [if_pos h0]
    simp only [if_neg h0]
    by_cases h1 : j = 16
    · simp only [if_pos h1]
    simp only [if_neg h1]
    by_cases h2 : j = 17
    · simp only [if_pos h2]
    simp only [if_neg h2]
    by_cases h3 : j = 18
    · simp only [if_pos h3]
    simp only [if_neg h3]
    by_cases h4 : j < 51
    · simp only [if_pos h4]
    simp only [if_neg h4]
    by_cases h5 : j = 51
    · simp only [if_pos h5]
    simp only [if_neg h5]
    by_cases h6 : j = 52
    · simp only [if_pos h6]
    simp only [if_neg h6]
    by_cases h7 : j < 57
    · simp only [if_pos h7]
      rw [if_neg (show ¬ j - 53 = k by omega)]
    simp only [if_neg h7]
theorem srv_below (c : CfgA) (hv : Value) (s : SrvA) (k : Nat) (hk : k < 32) (v : Bool) (f : Nat → Bool) (hf : ∀ b, b < 32 → f b = if b = k then v else s.below b) : (srvC c hv s).setIfInBounds (19 + k) (.bool v) = srvC c hv { s with below := f } := srvC_set c hv s _ _ _ fun j hj => by
  by_cases e : j = 19 + k
  · rw [if_pos e]
    subst e
    unfold srvF
    rw [if_neg (show ¬ 19 + k < 16 by omega)]
    rw [if_neg (show ¬ 19 + k = 16 by omega)]
    rw [if_neg (show ¬ 19 + k = 17 by omega)]
    rw [if_neg (show ¬ 19 + k = 18 by omega)]
    rw [if_pos (show 19 + k < 51 by omega)]
    simp only [show 19 + k - 19 = k by omega, hf k hk, if_true]
  · rw [if_neg e]
    unfold srvF
    by_cases h0 : j < 16
    · simp only [if_pos h0]
    simp only [if_neg h0]
    by_cases h1 : j = 16
    · simp only [if_pos h1]
    simp only [if_neg h1]
    by_cases h2 : j = 17
    · simp only [if_pos h2]
    simp only [if_neg h2]
    by_cases h3 : j = 18
    · simp only [if_pos h3]
    simp only [if_neg h3]
    by_cases h4 : j < 51
    · simp only [if_pos h4]
      rw [hf (j - 19) (by omega), if_neg (show ¬ j - 19 = k by omega)]
    simp only [if_neg h4]
def srv0 (cb : Nat) : SrvA := ⟨.pointer (some ⟨cb, 0, none⟩), .pointer none, fun _ => false, .slice none 0 0, .pointer none, fun _ => 0, false, 0, .slice none 0 0⟩
theorem built_srv (c : CfgA) (A : Option Addr) (n cp : Nat) (cb : Nat) : Tryz.prog.built 115 [(0, .agg (cfgCells c (.slice A n cp))), (1, .pointer (some ⟨cb, 0, none⟩))] = some (srvC c (.slice A n cp) (srv0 cb)) := by kernel_rfl
def FgPost (l : Nat) (hv : Value) (s : SrvA) (w : World) (e : Ending) (w' : World) : Prop :=
  e = .returned (.tuple #[]) ∧ ∃ d cs, w.heap.size ≤ d ∧ Box w' d 177 cs ∧ Box w' l 115 (srvC lc hv { s with dir := .pointer (some ⟨d, 0, none⟩), below := fun b => if b < 32 then true else s.below b }) ∧ Only (Just l) w w'
def FgRel (l : Nat) (hv : Value) (s : SrvA) (W : World) (i : Value) (wr : World) : Prop :=
  ∃ k : Nat, k ≤ 32 ∧ i = .int .i64 k ∧ Box wr l 115 (srvC lc hv { s with below := fun b => if b < k then true else s.below b }) ∧ Only (Just l) W wr
section
set_option maxHeartbeats 4000000
set_option maxRecDepth 100000
theorem dir_new14 (w : World) : Calls Tryz.prog 108 #[.int .i64 1, .int .i64 4] w fun e w' => ∃ d cs, e = .returned (.pointer (some ⟨d, 0, none⟩)) ∧ w.heap.size ≤ d ∧ Box w' d 177 cs ∧ Only Non w w' := by
  go_enter Tryz.func108, Tryz.ntmps108
  go_wp2
  go_ret
  exact ⟨_, _, rfl, Nat.le_refl _, Box.fresh _ _ _, (Only.refl _ _).alloc _⟩
theorem srv_forget (l : Nat) (hv : Value) (s : SrvA) (w : World) (hb : Box w l 115 (srvC lc hv s)) :
    Calls Tryz.prog 71 #[.pointer (some ⟨l, 0, none⟩)] w (FgPost l hv s w) := by
  have HB := Lib.hid hb
  clear hb
  go_enter Tryz.func71, Tryz.ntmps71
  go_upto_region 0 with fail
  refine wp_region_tail (S := (fun w' : World => Box w' l 115 (srvC lc hv s) ∧ Only Non w w')) 14 (by kernel_rfl) (by kernel_rfl) ?_ ?_
  · first | exact ⟨HB.out, (Only.refl Non w).drew⟩ | exact hS2
  intro hSS
  refine wpHd_take (i := 0) (v := ?_) (by kernel_rfl) rfl (by kernel_rfl) (fun _ _ _ h => h) (Or.inl ⟨by rfl, ?_⟩) (by assumption) ?_
  rotate_left
  · intro w hSw; (try dsimp only at hSw); go_simp; (try with_reducible rfl)
  try simp only [Act.put, List.getElem_toArray, List.getElem_cons_succ, List.getElem_cons_zero, List.setIfInBounds_toArray, List.set_cons_zero, List.set_cons_succ]
  refine wpHd_take (i := 1) (v := ?_) (by kernel_rfl) rfl (by kernel_rfl) (fun _ _ _ h => h) (Or.inl ⟨by rfl, ?_⟩) (by assumption) ?_
  rotate_left
  · intro w hSw; (try dsimp only at hSw); go_simp; (try with_reducible rfl)
  try simp only [Act.put, List.getElem_toArray, List.getElem_cons_succ, List.getElem_cons_zero, List.setIfInBounds_toArray, List.set_cons_zero, List.set_cons_succ]
  refine wpHd_take (i := 2) (v := ?_) (by kernel_rfl) rfl (by kernel_rfl) (fun _ _ _ h => h) (Or.inl ⟨by rfl, ?_⟩) (by assumption) ?_
  rotate_left
  · intro w hSw; (try dsimp only at hSw); go_simp; (try with_reducible rfl)
  try simp only [Act.put, List.getElem_toArray, List.getElem_cons_succ, List.getElem_cons_zero, List.setIfInBounds_toArray, List.set_cons_zero, List.set_cons_succ]
  refine wpHd_take (i := 3) (v := ?_) (by kernel_rfl) rfl (by kernel_rfl) (fun _ _ _ h => h) (Or.inl ⟨by rfl, ?_⟩) (by assumption) ?_
  rotate_left
  · intro w hSw; (try dsimp only at hSw); go_simp; (try with_reducible rfl)
  try simp only [Act.put, List.getElem_toArray, List.getElem_cons_succ, List.getElem_cons_zero, List.setIfInBounds_toArray, List.set_cons_zero, List.set_cons_succ]
  refine wpHd_take (i := 4) (v := ?_) (by kernel_rfl) rfl (by kernel_rfl) (fun _ _ _ h => h) (Or.inl ⟨by rfl, ?_⟩) (by assumption) ?_
  rotate_left
  · intro w hSw; (try dsimp only at hSw); go_simp; (try with_reducible rfl)
  try simp only [Act.put, List.getElem_toArray, List.getElem_cons_succ, List.getElem_cons_zero, List.setIfInBounds_toArray, List.set_cons_zero, List.set_cons_succ]
  refine wpHd_take (i := 5) (v := .int .i64 1) (by kernel_rfl) rfl (by kernel_rfl) (fun _ _ _ h => h) (Or.inl ⟨by rfl, fun w hSw => ?_⟩) (by assumption) ?_
  · have x1 : w.cell? ⟨l, 0, none⟩ = some (.int .i64 1) := hSw.1.cellAt (srvC_at lc hv s (i := 0) (by decide))
    clear hSw
    go_simp
  try simp only [Act.put, List.getElem_toArray, List.getElem_cons_succ, List.getElem_cons_zero, List.setIfInBounds_toArray, List.set_cons_zero, List.set_cons_succ]
  refine wpHd_take (i := 6) (v := ?_) (by kernel_rfl) rfl (by kernel_rfl) (fun _ _ _ h => h) (Or.inl ⟨by rfl, ?_⟩) (by assumption) ?_
  rotate_left
  · intro w hSw; (try dsimp only at hSw); go_simp; (try with_reducible rfl)
  try simp only [Act.put, List.getElem_toArray, List.getElem_cons_succ, List.getElem_cons_zero, List.setIfInBounds_toArray, List.set_cons_zero, List.set_cons_succ]
  refine wpHd_take (i := 7) (v := ?_) (by kernel_rfl) rfl (by kernel_rfl) (fun _ _ _ h => h) (Or.inl ⟨by rfl, ?_⟩) (by assumption) ?_
  rotate_left
  · intro w hSw; (try dsimp only at hSw); go_simp; (try with_reducible rfl)
  try simp only [Act.put, List.getElem_toArray, List.getElem_cons_succ, List.getElem_cons_zero, List.setIfInBounds_toArray, List.set_cons_zero, List.set_cons_succ]
  refine wpHd_take (i := 8) (v := ?_) (by kernel_rfl) rfl (by kernel_rfl) (fun _ _ _ h => h) (Or.inl ⟨by rfl, ?_⟩) (by assumption) ?_
  rotate_left
  · intro w hSw; (try dsimp only at hSw); go_simp; (try with_reducible rfl)
  try simp only [Act.put, List.getElem_toArray, List.getElem_cons_succ, List.getElem_cons_zero, List.setIfInBounds_toArray, List.set_cons_zero, List.set_cons_succ]
  refine wpHd_take (i := 9) (v := ?_) (by kernel_rfl) rfl (by kernel_rfl) (fun _ _ _ h => h) (Or.inl ⟨by rfl, ?_⟩) (by assumption) ?_
  rotate_left
  · intro w hSw; (try dsimp only at hSw); go_simp; (try with_reducible rfl)
  try simp only [Act.put, List.getElem_toArray, List.getElem_cons_succ, List.getElem_cons_zero, List.setIfInBounds_toArray, List.set_cons_zero, List.set_cons_succ]
  refine wpHd_take (i := 10) (v := .int .i64 4) (by kernel_rfl) rfl (by kernel_rfl) (fun _ _ _ h => h) (Or.inl ⟨by rfl, fun w hSw => ?_⟩) (by assumption) ?_
  · have x1 : w.cell? ⟨l, 2, none⟩ = some (.int .i64 4) := hSw.1.cellAt (srvC_at lc hv s (i := 2) (by decide))
    clear hSw
    go_simp
  try simp only [Act.put, List.getElem_toArray, List.getElem_cons_succ, List.getElem_cons_zero, List.setIfInBounds_toArray, List.set_cons_zero, List.set_cons_succ]
  refine wpHd_one (i := 11) rfl (by kernel_rfl) (fun K hK => ?_)
  go_simp
  refine (dir_new14 _).mono ?_
  rintro e W2 ⟨d, cs, rfl, hd, hb2, ho2⟩
  have HD := Lib.hid (show w.heap.size ≤ d ∧ Box W2 d 177 cs from ⟨hd, hb2⟩)
  have hS2 : Box W2 l 115 (srvC lc hv s) ∧ Only Non w W2 := ⟨ho2.box HB.out id, (Only.refl Non w).drew.trans ho2⟩
  clear hd hb2 ho2
  refine hK.out _ _ ?_ (fun hSS => ?_)
  · first | exact ⟨HB.out, (Only.refl Non w).drew⟩ | exact hS2
  clear hK
  try simp only [Act.put, List.getElem_toArray, List.getElem_cons_succ, List.getElem_cons_zero, List.setIfInBounds_toArray, List.set_cons_zero, List.set_cons_succ]
  refine wpHd_take (i := 12) (v := ?_) (by kernel_rfl) rfl (by kernel_rfl) (fun _ _ _ h => h) (Or.inl ⟨by rfl, ?_⟩) (by assumption) ?_
  rotate_left
  · intro w hSw; (try dsimp only at hSw); go_simp; (try with_reducible rfl)
  try simp only [Act.put, List.getElem_toArray, List.getElem_cons_succ, List.getElem_cons_zero, List.setIfInBounds_toArray, List.set_cons_zero, List.set_cons_succ]
  refine wpHd_take (i := 13) (v := ?_) (by kernel_rfl) rfl (by kernel_rfl) (fun _ _ _ h => h) (Or.inl ⟨by rfl, ?_⟩) (by assumption) ?_
  rotate_left
  · intro w hSw; (try dsimp only at hSw); go_simp; (try with_reducible rfl)
  try simp only [Act.put, List.getElem_toArray, List.getElem_cons_succ, List.getElem_cons_zero, List.setIfInBounds_toArray, List.set_cons_zero, List.set_cons_succ]
  refine wpHd_end (by kernel_rfl) ?_
  have hq : W2.cell? ⟨l, 18, none⟩ = some s.dir := hS2.1.cellAt (srvC_at lc hv s (i := 18) (by decide))
  have hqf : W2.frozen? ⟨l, 18, none⟩ = false := hS2.1.free _
  have HS2 := Lib.hid hS2
  clear hS2
  go_wp2_with fail
  have j3 : Only (Just l) W2 (W2.setCell ⟨l, 18, none⟩ (.pointer (some ⟨d, 0, none⟩))) := (Only.refl (Just l) W2).setCell (p := ⟨l, 18, none⟩) (.inl (show Just l l from rfl)) _
  have hb3 := HS2.out.1.store 18 (.pointer (some ⟨d, 0, none⟩))
  rw [srv_dir] at hb3
  have hdl : d ≠ l := by have h1 := HD.out.1; have h2 := HB.out.lt; omega
  have HB3 := Lib.hid hb3
  have HD3 := Lib.hid (show w.heap.size ≤ d ∧ Box (W2.setCell ⟨l, 18, none⟩ (.pointer (some ⟨d, 0, none⟩))) d 177 cs ∧ d ≠ l from ⟨HD.out.1, j3.box HD.out.2 (show ¬ d = l from hdl), hdl⟩)
  have HO3 := Lib.hid (show Only (Just l) w (W2.setCell ⟨l, 18, none⟩ (.pointer (some ⟨d, 0, none⟩))) from (HS2.out.2.mono fun k h => h.elim).trans j3)
  change Code.wp _ _ _ _ (W2.setCell ⟨l, 18, none⟩ (.pointer (some ⟨d, 0, none⟩)))
  clear j3 hb3 hdl hSS hq hqf HS2 HD HB
  generalize W2.setCell ⟨l, 18, none⟩ (.pointer (some ⟨d, 0, none⟩)) = W3 at *
  go_loopw [17] (fun i wr => FgRel l hv { s with dir := .pointer (some ⟨d, 0, none⟩) } W3 i wr) (fun i _ => 32 - (intOf i).toNat)
  case atStart =>
    refine ⟨0, Nat.zero_le _, rfl, ?_, Only.refl _ _⟩
    have e : (fun b : Nat => if b < 0 then true else s.below b) = s.below := by funext b; simp
    show Box W3 l _ (srvC lc hv ⟨s.cache, .pointer (some ⟨d, 0, none⟩), fun b : Nat => if b < 0 then true else s.below b, s.queue, s.cur, s.boots, s.up, s.round, s.out⟩)
    rw [e]
    exact HB3.out
  case round =>
    obtain ⟨k, hk, rfl, hb, ho⟩ := hrel
    have HBR := Lib.hid hb
    have HOR := Lib.hid ho
    clear hb ho
    by_cases hlt : k < 32
    · have hltb : (k : Int) < 32 := by omega
      have hw1 : IntKind.i64.wrap ((k : Int) + 1) = ((k + 1 : Nat) : Int) := by rw [IntKind.wrap_i64]; omega
      have hx : ∃ v, wr.cell? ⟨l, 19 + k, none⟩ = some v := ⟨_, HBR.out.cellAt (srvC_at lc hv _ (i := 19 + k) (by omega))⟩
      obtain ⟨v, hx⟩ := hx
      have hxf : wr.frozen? ⟨l, 19 + k, none⟩ = false := HBR.out.free _
      go_wp2_with fail
      have hb := HBR.out.store (19 + k) (.bool true)
      rw [srv_below lc hv _ k hlt true (fun b => if b < k + 1 then true else s.below b) (fun b hb => by
        by_cases e : b = k
        · subst e
          rw [if_pos rfl, if_pos (Nat.lt_succ_self _)]
        · rw [if_neg e]
          by_cases e2 : b < k
          · rw [if_pos (by omega)]
            show true = if b < k then true else s.below b
            rw [if_pos e2]
          · rw [if_neg (by omega)]
            show s.below b = if b < k then true else s.below b
            rw [if_neg e2])] at hb
      exact ⟨⟨k + 1, hlt, by push_cast; rfl, hb, HOR.out.setCell (p := ⟨l, 19 + k, none⟩) (.inl (show Just l l from rfl)) _⟩, by simp [intOf]; omega⟩
    · have hk' : k = 32 := by omega
      subst hk'
      go_wp2_with fail
      go_end0
      exact ⟨rfl, d, cs, HD3.out.1, HOR.out.box HD3.out.2.1 (show ¬ d = l from HD3.out.2.2), HBR.out, HO3.out.trans HOR.out⟩
end
end Go.Proofs.YtcphifphidcbaaaGreat
