/- A server tells the array that it reads a block: tell, reads, begin. Printed by sre.py. -/
import Derived.Test.YtcphifphidcbaaaGreatSrd
namespace Go.Proofs.YtcphifphidcbaaaGreat
open Go.RowKit Go.ChangeShapes Go.WideShapes
set_option linter.unusedVariables false
set_option linter.unusedSimpArgs false
def toldV : Array Value := #[.int .i64 (-2), .int .i64 8, .int .i64 0, .int .i64 0, .int .i64 0, .int .i64 0, .int .i64 1, .int .i64 1, .int .i64 0, .int .i64 0, .bool false, .slice none 0 0]
theorem toldL_one : ∀ u ∈ toldV.toList, u.oneCell' = true := by simp [toldV, Value.oneCell']
theorem toldInfo : (Tryz.prog.info? 107).map (fun i => (i.zero, i.size, i.bytes)) = some (some (.agg #[.int .i64 0, .int .i64 0, .int .i64 0, .int .i64 0, .int .i64 0, .int .i64 0, .int .i64 0, .int .i64 0, .int .i64 0, .int .i64 0, .bool false, .slice none 0 0]), 12, 112) := by kernel_rfl
def TellPost (l : Nat) (hv : Value) (s : SrvA) (w : World) (e : Ending) (w' : World) : Prop :=
  e = .returned (.tuple #[]) ∧ ∃ tb q, w.heap.size ≤ tb ∧ Box w' l 115 (srvC lc hv { s with out := .slice (some ⟨tb, 0, none⟩) 1 q }) ∧ (∀ j u, toldV.toList[j]? = some u → w'.cell? ⟨tb, j, none⟩ = some u) ∧ Only (Just l) w w'
section
set_option maxHeartbeats 4000000
set_option maxRecDepth 100000
variable {l : Nat} {hv : Value} {s : SrvA} {w : World}
theorem tell_first (ho : s.out = .slice none 0 0) (hb : Box w l 115 (srvC lc hv s)) :
    Calls Tryz.prog 104 #[.pointer (some ⟨l, 0, none⟩), .int .i64 (-2), .agg #[.int .i64 8, .int .i64 0, .int .i64 0, .int .i64 0, .int .i64 0, .int .i64 1, .int .i64 1, .int .i64 0, .int .i64 0, .bool false, .slice none 0 0]] w (TellPost l hv s w) := by
  have HLT := Lib.hid hb.lt
  have q := (srv_cell hb 59 (by decide)).trans (by rw [← ho]; rfl : some (srvF lc hv s 59) = some (.slice none 0 0))
  have HB := Lib.hid hb
  clear hb ho
  go_enter Tryz.func104, Tryz.ntmps104
  go_upto_region 1 with fail
  have hO := (Only.refl Non w).alloc (.cells #[.int .i64 8, .int .i64 0, .int .i64 0, .int .i64 0, .int .i64 0, .int .i64 1, .int .i64 1, .int .i64 0, .int .i64 0, .bool false, .slice none 0 0] 25)
  have HM := Lib.hid (Box.fresh w 25 #[.int .i64 8, .int .i64 0, .int .i64 0, .int .i64 0, .int .i64 0, .int .i64 1, .int .i64 1, .int .i64 0, .int .i64 0, .bool false, .slice none 0 0])
  have HB1 := Lib.hid (hO.box HB.out id)
  have q59 := hO.cell q id
  have HO := Lib.hid hO
  change Code.wp _ _ _ _ (w.alloc (.cells #[.int .i64 8, .int .i64 0, .int .i64 0, .int .i64 0, .int .i64 0, .int .i64 1, .int .i64 1, .int .i64 0, .int .i64 0, .bool false, .slice none 0 0] 25))
  obtain ⟨mb, hmb⟩ : ∃ mb, mb = w.heap.size := ⟨_, rfl⟩
  rw [← hmb] at HM ⊢
  clear hmb hO HB q
  generalize w.alloc (.cells #[.int .i64 8, .int .i64 0, .int .i64 0, .int .i64 0, .int .i64 0, .int .i64 1, .int .i64 1, .int .i64 0, .int .i64 0, .bool false, .slice none 0 0] 25) = W1 at *
  refine wp_region_tail (S := (fun w' : World => w'.cell? ⟨l, 59, none⟩ = some (.slice none 0 0) ∧ Box w' l 115 (srvC lc hv s) ∧ Box w' mb 25 #[.int .i64 8, .int .i64 0, .int .i64 0, .int .i64 0, .int .i64 0, .int .i64 1, .int .i64 1, .int .i64 0, .int .i64 0, .bool false, .slice none 0 0] ∧ Only Non w w')) 12 (by kernel_rfl) (by kernel_rfl) ?_ ?_
  · first | exact ⟨q59, HB1.out, HM.out, HO.out.drew⟩ | exact hS4 | exact hS7
  intro hSS
  refine wpHd_take (i := 0) (v := ?_) (by kernel_rfl) rfl (by kernel_rfl) (fun _ _ _ h => h) (Or.inl ⟨by rfl, ?_⟩) (by assumption) ?_
  rotate_left
  · intro w hSw; (try dsimp only at hSw); go_simp; (try with_reducible rfl)
  try simp only [Act.put, List.getElem_toArray, List.getElem_cons_succ, List.getElem_cons_zero, List.setIfInBounds_toArray, List.set_cons_zero, List.set_cons_succ]
  refine wpHd_take (i := 1) (v := ?_) (by kernel_rfl) rfl (by kernel_rfl) (fun _ _ _ h => h) (Or.inl ⟨by rfl, ?_⟩) (by assumption) ?_
  rotate_left
  · intro w hSw; (try dsimp only at hSw); go_simp; (try with_reducible rfl)
  try simp only [Act.put, List.getElem_toArray, List.getElem_cons_succ, List.getElem_cons_zero, List.setIfInBounds_toArray, List.set_cons_zero, List.set_cons_succ]
  refine wpHd_take (i := 2) (v := ?_) (by kernel_rfl) rfl (by kernel_rfl) (fun _ _ _ h => h) (Or.inl ⟨by rfl, ?_⟩) (by assumption) ?_
  rotate_left
  · intro w hSw; (try dsimp only at hSw); go_simp; (try with_reducible rfl)
  try simp only [Act.put, List.getElem_toArray, List.getElem_cons_succ, List.getElem_cons_zero, List.setIfInBounds_toArray, List.set_cons_zero, List.set_cons_succ]
  refine wpHd_take (i := 3) (v := ?_) (by kernel_rfl) rfl (by kernel_rfl) (fun _ _ _ h => h) (Or.inl ⟨by rfl, ?_⟩) (by assumption) ?_
  rotate_left
  · intro w hSw; (try dsimp only at hSw); go_simp; (try with_reducible rfl)
  try simp only [Act.put, List.getElem_toArray, List.getElem_cons_succ, List.getElem_cons_zero, List.setIfInBounds_toArray, List.set_cons_zero, List.set_cons_succ]
  refine wpHd_take (i := 4) (v := ?_) (by kernel_rfl) rfl (by kernel_rfl) (fun _ _ _ h => h) (Or.inl ⟨by rfl, ?_⟩) (by assumption) ?_
  rotate_left
  · intro w hSw; (try dsimp only at hSw); go_simp; (try with_reducible rfl)
  try simp only [Act.put, List.getElem_toArray, List.getElem_cons_succ, List.getElem_cons_zero, List.setIfInBounds_toArray, List.set_cons_zero, List.set_cons_succ]
  refine wpHd_take (i := 5) (v := ?_) (by kernel_rfl) rfl (by kernel_rfl) (fun _ _ _ h => h) (Or.inl ⟨by rfl, ?_⟩) (by assumption) ?_
  rotate_left
  · intro w hSw; (try dsimp only at hSw); go_simp; (try with_reducible rfl)
  try simp only [Act.put, List.getElem_toArray, List.getElem_cons_succ, List.getElem_cons_zero, List.setIfInBounds_toArray, List.set_cons_zero, List.set_cons_succ]
  refine wpHd_take (i := 6) (v := .agg #[.int .i64 8, .int .i64 0, .int .i64 0, .int .i64 0, .int .i64 0, .int .i64 1, .int .i64 1, .int .i64 0, .int .i64 0, .bool false, .slice none 0 0]) (by kernel_rfl) rfl (by kernel_rfl) (fun _ _ _ h => h) (yieldsIf_load_mid (by rfl) 25 _ rfl mb 0 rfl (#[.int .i64 8, .int .i64 0, .int .i64 0, .int .i64 0, .int .i64 0, .int .i64 1, .int .i64 1, .int .i64 0, .int .i64 0, .bool false, .slice none 0 0] : Array Value).toList _ (fun w hw j v hj => by rw [Nat.zero_add]; exact hw.2.2.1.cellAt (by rw [← Array.getElem?_toList]; exact hj)) Tryz.underlying25 rfl (by kernel_rfl)) (by assumption) ?_
  try simp only [Act.put, List.getElem_toArray, List.getElem_cons_succ, List.getElem_cons_zero, List.setIfInBounds_toArray, List.set_cons_zero, List.set_cons_succ]
  refine wpHd_take (i := 7) (v := .agg #[.int .i64 (-2), .int .i64 8, .int .i64 0, .int .i64 0, .int .i64 0, .int .i64 0, .int .i64 1, .int .i64 1, .int .i64 0, .int .i64 0, .bool false, .slice none 0 0]) (by kernel_rfl) rfl (by kernel_rfl) (fun _ _ _ h => h) (Or.inl ⟨by rfl, fun w hSw => ?_⟩) (by assumption) ?_
  · go_simp
  try simp only [Act.put, List.getElem_toArray, List.getElem_cons_succ, List.getElem_cons_zero, List.setIfInBounds_toArray, List.set_cons_zero, List.set_cons_succ]
  refine wpHd_one (i := 8) rfl (by kernel_rfl) (fun K hK => ?_)
  go_simp
  have al := (Only.refl Non W1.drew).alloc (.cells #[.int .i64 (-2), .int .i64 8, .int .i64 0, .int .i64 0, .int .i64 0, .int .i64 0, .int .i64 1, .int .i64 1, .int .i64 0, .int .i64 0, .bool false, .slice none 0 0] 107)
  have hS4 : (W1.drew.alloc (.cells #[.int .i64 (-2), .int .i64 8, .int .i64 0, .int .i64 0, .int .i64 0, .int .i64 0, .int .i64 1, .int .i64 1, .int .i64 0, .int .i64 0, .bool false, .slice none 0 0] 107)).cell? ⟨l, 59, none⟩ = some (.slice none 0 0) ∧ Box (W1.drew.alloc (.cells #[.int .i64 (-2), .int .i64 8, .int .i64 0, .int .i64 0, .int .i64 0, .int .i64 0, .int .i64 1, .int .i64 1, .int .i64 0, .int .i64 0, .bool false, .slice none 0 0] 107)) l 115 (srvC lc hv s) ∧ Box (W1.drew.alloc (.cells #[.int .i64 (-2), .int .i64 8, .int .i64 0, .int .i64 0, .int .i64 0, .int .i64 0, .int .i64 1, .int .i64 1, .int .i64 0, .int .i64 0, .bool false, .slice none 0 0] 107)) mb 25 #[.int .i64 8, .int .i64 0, .int .i64 0, .int .i64 0, .int .i64 0, .int .i64 1, .int .i64 1, .int .i64 0, .int .i64 0, .bool false, .slice none 0 0] ∧ Only Non w (W1.drew.alloc (.cells #[.int .i64 (-2), .int .i64 8, .int .i64 0, .int .i64 0, .int .i64 0, .int .i64 0, .int .i64 1, .int .i64 1, .int .i64 0, .int .i64 0, .bool false, .slice none 0 0] 107)) := ⟨al.cell hSS.1 id, al.box hSS.2.1 id, al.box hSS.2.2.1 id, hSS.2.2.2.trans al⟩
  have HCN := Lib.hid (cells_new W1.drew toldV.toList 107)
  refine hK.out _ _ ?_ (fun hSS => ?_)
  · first | exact ⟨q59, HB1.out, HM.out, HO.out.drew⟩ | exact hS4 | exact hS7
  clear hK
  try simp only [Act.put, List.getElem_toArray, List.getElem_cons_succ, List.getElem_cons_zero, List.setIfInBounds_toArray, List.set_cons_zero, List.set_cons_succ]
  refine wpHd_one (i := 9) rfl (by kernel_rfl) (fun K hK => ?_)
  refine step_wide _ (by rfl) (.tmp 10) (.tmp 14) 53 107 (by rfl) toldInfo (by rfl) (by decide) Tryz.underlying53 W1.heap.size _ 0 [] toldV.toList (by rfl) (World.ownsRow_nil _ _ _ _) ⟨W1.heap.size, 0, none⟩ (by rfl) (by rfl) HCN.out toldL_one (by decide) (by decide) (by exact al.size) ?_
  intro v7 W7 h7 ho7 _
  have ho7n : Only Non (W1.drew.alloc (.cells #[.int .i64 (-2), .int .i64 8, .int .i64 0, .int .i64 0, .int .i64 0, .int .i64 0, .int .i64 1, .int .i64 1, .int .i64 0, .int .i64 0, .bool false, .slice none 0 0] 107)) W7 := ho7.mono fun k hk => (ownB_none hk).elim
  have hS7 : W7.cell? ⟨l, 59, none⟩ = some (.slice none 0 0) ∧ Box W7 l 115 (srvC lc hv s) ∧ Box W7 mb 25 #[.int .i64 8, .int .i64 0, .int .i64 0, .int .i64 0, .int .i64 0, .int .i64 1, .int .i64 1, .int .i64 0, .int .i64 0, .bool false, .slice none 0 0] ∧ Only Non w W7 := ⟨ho7n.cell hSS.1 id, ho7n.box hSS.2.1 id, ho7n.box hSS.2.2.1 id, hSS.2.2.2.trans ho7n⟩
  have H7 := Lib.hid h7
  clear h7 ho7 ho7n
  refine hK.out _ _ ?_ (fun hSS => ?_)
  · first | exact ⟨q59, HB1.out, HM.out, HO.out.drew⟩ | exact hS4 | exact hS7
  clear hK
  try simp only [Act.put, List.getElem_toArray, List.getElem_cons_succ, List.getElem_cons_zero, List.setIfInBounds_toArray, List.set_cons_zero, List.set_cons_succ]
  refine wpHd_take (i := 10) (v := ?_) (by kernel_rfl) rfl (by kernel_rfl) (fun _ _ _ h => h) (Or.inl ⟨by rfl, ?_⟩) (by assumption) ?_
  rotate_left
  · intro w hSw; (try dsimp only at hSw); go_simp; (try with_reducible rfl)
  try simp only [Act.put, List.getElem_toArray, List.getElem_cons_succ, List.getElem_cons_zero, List.setIfInBounds_toArray, List.set_cons_zero, List.set_cons_succ]
  refine wpHd_take (i := 11) (v := ?_) (by kernel_rfl) rfl (by kernel_rfl) (fun _ _ _ h => h) (Or.inl ⟨by rfl, ?_⟩) (by assumption) ?_
  rotate_left
  · intro w hSw; (try dsimp only at hSw); go_simp; (try with_reducible rfl)
  try simp only [Act.put, List.getElem_toArray, List.getElem_cons_succ, List.getElem_cons_zero, List.setIfInBounds_toArray, List.set_cons_zero, List.set_cons_succ]
  refine wpHd_end (by kernel_rfl) ?_
  obtain ⟨g, c, hv7, hg0, hg1, hc⟩ := ownsRow_cell H7.out (by decide)
  subst hv7
  have qc : W7.cell? ⟨l, 59, none⟩ = some (.slice none 0 0) := hS7.1
  have qf : W7.frozen? ⟨l, 59, none⟩ = false := hS7.2.1.free _
  have HS7 := Lib.hid hS7
  have HC7 := Lib.hid hc
  have HGL := Lib.hid (show w.heap.size ≤ g ∧ g ≠ l from by have h1 := HO.out.size; have h2 := HLT.out; omega)
  clear hS7 hc hS4 hSS al q59 HCN H7
  go_wp2_with fail
  go_end0
  have j8 : Only (Just l) W7 (W7.setCell ⟨l, 59, none⟩ (.slice (some ⟨g, 0, none⟩) (0 + 1) c)) := (Only.refl (Just l) W7).setCell (p := ⟨l, 59, none⟩) (.inl (show Just l l from rfl)) _
  have hb8 := HS7.out.2.1.store 59 (.slice (some ⟨g, 0, none⟩) (0 + 1) c)
  rw [srv_out] at hb8
  exact ⟨rfl, g, c, HGL.out.1, hb8, fun j u hj => j8.cell (HC7.out j u hj) (show ¬ g = l from HGL.out.2), (HS7.out.2.2.2.mono fun k h => h.elim).trans j8⟩
end
end Go.Proofs.YtcphifphidcbaaaGreat
