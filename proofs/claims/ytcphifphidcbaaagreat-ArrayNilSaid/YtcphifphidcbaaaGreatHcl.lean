/- slices.Clone at []api.Hint. -/
import Derived.Test.YtcphifphidcbaaaGreatCfgB
namespace Go.Proofs.YtcphifphidcbaaaGreat
open Go.RowKit Go.ChangeShapes Go.WideShapes
set_option linter.unusedVariables false
set_option linter.unusedSimpArgs false
theorem flat_at {α β : Type} (f : α → List β) (s : Nat) (d : α) (hf : ∀ a, (f a).length = s) : ∀ (l : List α) (i j : Nat), i < l.length → j < s → (l.flatMap f)[i * s + j]? = (f (l.getD i d))[j]?
  | [], i, j, h, _ => absurd h (Nat.not_lt_zero _)
  | a :: l, 0, j, _, hj => by
    rw [List.flatMap_cons, Nat.zero_mul, Nat.zero_add, List.getElem?_append_left (by rw [hf]; exact hj)]
    rfl
  | a :: l, i + 1, j, h, hj => by
    rw [List.flatMap_cons, List.getElem?_append_right (by rw [hf, Nat.succ_mul]; omega), hf, show (i + 1) * s + j - s = i * s + j from by rw [Nat.succ_mul]; omega]
    exact flat_at f s d hf l i j (by simpa using h) hj
def hC (h : HintA) : List Value := [.int .i64 h.fr, .int .i64 h.size, .int .i64 h.often, .bool h.loop]
theorem hC_len (h : HintA) : (hC h).length = 4 := rfl
theorem hflat_len (L : List HintA) : (L.flatMap hC).length = L.length * 4 := by
  rw [List.length_flatMap]
  have : (L.map fun p => (hC p).length) = L.map fun _ => 4 := rfl
  rw [this, List.map_const', List.sum_replicate_nat]
theorem HintsAt.cells {w : World} {A : Option Addr} {n c : Nat} {l : List HintA} (h : HintsAt w A n c l) (ad : Addr) (had : A = some ad) : ∀ j u, (l.flatMap hC)[j]? = some u → w.cell? (ad.add j) = some u := by
  intro j u hj
  have hjl : j < l.length * 4 := by rw [← hflat_len]; exact (List.getElem?_eq_some_iff.1 hj).1
  have hi : j / 4 < l.length := by omega
  obtain ⟨g, o, e, hg, c0, c1, c2, c3⟩ := h.at_ (j / 4) hi
  rw [had] at e
  injection e with e
  subst e
  have hd : j = j / 4 * 4 + j % 4 := by omega
  rw [hd, flat_at hC 4 default hC_len l (j / 4) (j % 4) hi (by omega)] at hj
  rw [Addr.add_lit]
  have hm : j % 4 < 4 := Nat.mod_lt _ (by decide)
  rw [show o + j = o + j / 4 * 4 + j % 4 from by omega]
  generalize j % 4 = q at *
  rcases (show q = 0 ∨ q = 1 ∨ q = 2 ∨ q = 3 by omega) with rfl | rfl | rfl | rfl
  · exact c0.trans hj
  · exact c1.trans hj
  · exact c2.trans hj
  · exact c3.trans hj
theorem owns_hints {w : World} {base : Nat} {v : Value} {L : List HintA} (h : w.ownsRow base 88 4 v L.length (L.flatMap hC)) : ∃ A c, v = .slice A L.length c ∧ HintsAt w A L.length c L := by
  rcases h.2 with ⟨e, h0⟩ | ⟨g, cap, cur, e, hb, hg, hn, hm, hs, ht⟩
  · rw [h0]
    refine ⟨none, 0, e, ⟨h0.symm, Nat.zero_le _, Nat.zero_le _, fun i hi => ?_⟩⟩
    omega
  · refine ⟨some ⟨g, 0, none⟩, cap, e, ⟨rfl, hn, hm, fun i hi => ?_⟩⟩
    have key : ∀ j u, j < 4 → (hC (L.getD i default))[j]? = some u → w.cell? ⟨g, 0 + i * 4 + j, none⟩ = some u := fun j u hj hu => by
      have hc := h.cells (g := g) (by rw [e]; rfl) (i * 4 + j) u (by rw [flat_at hC 4 default hC_len L i j hi hj]; exact hu)
      rw [Addr.add_lit, ← Nat.add_assoc] at hc
      exact hc
    exact ⟨g, 0, rfl, (Array.getElem?_eq_some_iff.1 hg).1, key 0 _ (by decide) rfl, key 1 _ (by decide) rfl, key 2 _ (by decide) rfl, key 3 _ (by decide) rfl⟩
def zH : Array Value := #[.int .i64 0, .int .i64 0, .int .i64 0, .bool false]
theorem hintInfo : (Tryz.prog.info? 88).map (fun i => (i.zero, i.size, i.bytes)) = some (some (.agg zH), 4, 32) := by kernel_rfl
def HClone (l : List HintA) (w : World) (e : Ending) (w' : World) : Prop :=
  ∃ A c, e = .returned (.slice A l.length c) ∧ HintsAt w' A l.length c l ∧ Only Non w w' ∧ ∀ k, ownB (.slice A l.length c) k → w.heap.size ≤ k
section
set_option maxHeartbeats 4000000
set_option maxRecDepth 100000
theorem hclone_any {A : Option Addr} {n c : Nat} {l : List HintA} (w : World) (h : HintsAt w A n c l) (hl : l.length ≤ 100) : Calls Tryz.prog 49 #[.slice A n c] w (HClone l w) := by
  have he := fun w => Lib.run_eql_slice_nil (P := Tryz.prog) (w := w)
  obtain rfl := h.len
  cases A with
  | none =>
    have h0 : l = [] := by
      cases l with
      | nil => rfl
      | cons a l =>
        obtain ⟨g, o, e, _⟩ := h.at_ 0 (Nat.zero_lt_succ _)
        cases e
    subst h0
    clear h
    go_enter Tryz.func49, Tryz.ntmps49
    go_wp2_with fail
    go_ret
    exact ⟨none, 0, rfl, ⟨rfl, Nat.le_refl _, Nat.zero_le _, fun i hi => absurd hi (Nat.not_lt_zero _)⟩, Only.refl _ _, fun k hk => (ownB_none hk).elim⟩
  | some ad =>
    obtain ⟨i0, hi, hz, hsz, hby⟩ := info_parts hintInfo
    have hal : Only Non w (w.alloc (.cells #[] 88)) := (Only.refl _ _).alloc _
    have hown : (w.alloc (.cells #[] 88)).ownsRow w.heap.size 88 4 (.slice (some ⟨w.heap.size, 0, none⟩) 0 0) 0 [] := ⟨rfl, .inr ⟨w.heap.size, 0, #[], rfl, Nat.le_refl _, Box.fresh w 88 #[], Nat.le_refl _, Nat.zero_le _, rfl, rfl⟩⟩
    have hcells := (h.keep hal).cells ad rfl
    have HOW := Lib.hid hown
    have HCE := Lib.hid hcells
    have HAL := Lib.hid hal
    have HIN := Lib.hid (show ∀ u ∈ l.flatMap hC, u.oneCell' = true from fun u hu => by
      obtain ⟨p, hp, hu⟩ := List.mem_flatMap.1 hu
      simp [hC] at hu
      rcases hu with rfl | rfl | rfl | rfl <;> rfl)
    have HL := Lib.hid hl
    have HI := Lib.hid hi
    have HZ := Lib.hid hz
    have HS := Lib.hid hsz
    have HB := Lib.hid hby
    clear hown hcells hal h hl hi hz hsz hby
    go_enter Tryz.func49, Tryz.ntmps49
    go_wp2_with (at_builtin; refine wpList_append_own_at (w.alloc (.cells #[] 88)) rfl (.tmp 5) (.tmp 6) 40 rfl w.heap.size 88 i0 _ 4 32 Tryz.underlying40 HI.out HZ.out HS.out HB.out rfl (by decide) _ 0 [] rfl HOW.out ad l.length c (l.flatMap hC) rfl (hflat_len l) HCE.out HIN.out (by have := HL.out; unfold maxLen; omega) (by have := HL.out; omega) (by rw [World.size_alloc]; omega) ?_; intro v' w1 h2 h3 h4 h5; have H2 := Lib.hid h2; have H3 := Lib.hid h3; have H5 := Lib.hid h5; clear h2 h3 h4 h5)
    go_ret
    have h2 := H2.out
    rw [Nat.zero_add, List.nil_append] at h2
    obtain ⟨A', c', rfl, hh⟩ := owns_hints h2
    exact ⟨A', c', rfl, hh, HAL.out.trans' ((Only.refl _ _).grown (S := fun k => w.heap.size ≤ k) H3.out fun k hk => .inl (by
      have : w.heap.size = k := ownB_slice.1 hk
      omega)) fun k hk => .inr hk, fun k hk => (World.ownsRow.lt h2 k hk).1⟩
end
end Go.Proofs.YtcphifphidcbaaaGreat
