/- A cache from which the block goes that was not used longest: lru. -/
import Derived.Test.YtcphifphidcbaaaGreatSpf
import Derived.Handy
namespace Go.Proofs.YtcphifphidcbaaaGreat
open Go.RowKit Go.ChangeShapes Go.WideShapes
set_option linter.unusedVariables false
set_option linter.unusedSimpArgs false
def one (L : List Int) : Nat → List Int := fun i => if i = 0 then L else []
theorem one_rem (L : List Int) (b : Int) : remS (one L) b = one (L.erase b) := by
  funext i
  unfold remS one
  split <;> rfl
theorem one_front (L : List Int) (b : Int) : frontS (one L) 0 b = one (b :: L) := by
  funext i
  unfold frontS updN one
  split
  · rename_i e; subst e; rfl
  · rfl
theorem one_not {L : List Int} {b : Int} (h : b ∉ L) : ∀ i, b ∉ one L i := fun i hi => by
  unfold one at hi
  split at hi
  · exact h hi
  · cases hi
theorem SpB.nodup {w : World} {g eb m : Nat} {S : Nat → List Int} (h : SpB w g eb m S) (i : Nat) : (S i).Nodup := by
  obtain ⟨N, E, _, hr, _⟩ := h
  exact hr.nodup i
theorem SpB.rng {w : World} {g eb m : Nat} {S : Nat → List Int} (h : SpB w g eb m S) {i : Nat} {b : Int} (hb : b ∈ S i) : 0 ≤ b ∧ b < 64 := by
  obtain ⟨N, E, _, hr, _⟩ := h
  exact hr.rng hb
theorem SpB.lt1 {w : World} {g eb m : Nat} {S : Nat → List Int} (h : SpB w g eb m S) : g < w.heap.size ∧ eb < w.heap.size := by
  obtain ⟨N, E, hm, _⟩ := h
  exact ⟨hm.1.lt, hm.2.lt⟩
theorem SpB.off {w : World} {g eb m : Nat} {S : Nat → List Int} (h : SpB w g eb m S) {p : Nat} {t : TypeId} {cs : Array Value} (hb : Box w p t cs) (h1 : t ≠ 214) (h2 : t ≠ 216) : p ≠ g ∧ p ≠ eb := by
  obtain ⟨N, E, hm, _⟩ := h
  exact ⟨hb.off hm.1 h1, hb.off hm.2 h2⟩
structure LruB (w : World) (p g eb cap : Nat) (L : List Int) : Prop where
  box : Box w p 248 #[.pointer (some ⟨g, 0, none⟩), .int .i64 cap]
  sp : SpB w g eb 1 (one L)
  c1 : 1 ≤ cap
  c16 : cap ≤ 16
theorem LruB.only {w w' : World} {p g eb cap : Nat} {L : List Int} {F : Nat → Prop} (h : LruB w p g eb cap L) (ho : Only F w w') (h1 : ¬ F p) (h2 : ¬ F g) (h3 : ¬ F eb) : LruB w' p g eb cap L :=
  ⟨ho.box h.box h1, h.sp.only ho h2 h3, h.c1, h.c16⟩
theorem LruB.step {w w' : World} {p g eb cap : Nat} {L L' : List Int} (h : LruB w p g eb cap L) (ho : Only (Two g eb) w w') (hs : SpB w' g eb 1 (one L')) : LruB w' p g eb cap L' := by
  obtain ⟨h1, h2⟩ := h.sp.off h.box (by decide) (by decide)
  exact ⟨ho.box h.box (fun e => e.elim h1 h2), hs, h.c1, h.c16⟩
/-- what an Add gives: the blocks then, the victim, whether one went -/
def lruAdd (cap : Nat) (L : List Int) (b : Int) : List Int × Int × Bool :=
  if b ∈ L then (b :: L.erase b, 0, false) else if L.length < cap then (b :: L, 0, false) else (b :: L.erase (lst L), lst L, true)
section
set_option maxHeartbeats 4000000
set_option maxRecDepth 100000
variable {p g eb cap : Nat} {L : List Int}
theorem lru_has (b : Int) (w : World) (h : LruB w p g eb cap L) :
    Calls Tryz.prog 242 #[.pointer (some ⟨p, 0, none⟩), .int .i64 b] w fun e w' => e = .returned (.bool (decide (b ∈ L))) ∧ w = w' := by
  have hp : w.cell? ⟨p, 0, none⟩ = some (.pointer (some ⟨g, 0, none⟩)) := h.box.cellAt rfl
  by_cases hb : b ∈ L
  · have HC := Lib.hid (of_in (i := 0) w h.sp hb)
    rw [decide_eq_true hb]
    clear h hb
    go_enter Tryz.func242, Tryz.ntmps242
    go_wp2_with (go_at_call 172; refine HC.out.mono ?_; rintro e W1 ⟨rfl, rfl⟩)
    go_ret
    exact ⟨rfl, rfl⟩
  · have HC := Lib.hid (of_no w h.sp (one_not hb))
    rw [decide_eq_false hb]
    clear h hb
    go_enter Tryz.func242, Tryz.ntmps242
    go_wp2_with (go_at_call 172; refine HC.out.mono ?_; rintro e W1 ⟨rfl, rfl⟩)
    go_ret
    exact ⟨rfl, rfl⟩
theorem lru_len (w : World) (h : LruB w p g eb cap L) : Calls Tryz.prog 243 #[.pointer (some ⟨p, 0, none⟩)] w fun e w' => e = .returned (.int .i64 L.length) ∧ w = w' := by
  have hp : w.cell? ⟨p, 0, none⟩ = some (.pointer (some ⟨g, 0, none⟩)) := h.box.cellAt rfl
  have HC := Lib.hid (len_any 0 w h.sp (by decide))
  clear h
  go_enter Tryz.func243, Tryz.ntmps243
  go_wp2_with (go_at_call 222; refine HC.out.mono ?_; rintro e W1 ⟨rfl, rfl⟩)
  go_ret
  exact ⟨rfl, rfl⟩
theorem lru_all (w : World) (h : LruB w p g eb cap L) : Calls Tryz.prog 241 #[.pointer (some ⟨p, 0, none⟩)] w fun e w' => ∃ v, e = .returned v ∧ OwnInts 3 w' w.heap.size v L ∧ Only Non w w' := by
  have hp : w.cell? ⟨p, 0, none⟩ = some (.pointer (some ⟨g, 0, none⟩)) := h.box.cellAt rfl
  have HC := Lib.hid (all_any (i := 0) w h.sp (by decide))
  clear h
  go_enter Tryz.func241, Tryz.ntmps241
  go_wp2_with (go_at_call 154; refine HC.out.mono ?_; rintro e W1 ⟨v, rfl, h1, h2⟩)
  go_ret
  exact ⟨v, rfl, h1, h2⟩
theorem lru_use_no {b : Int} (w : World) (h : LruB w p g eb cap L) (hb : b ∉ L) : Calls Tryz.prog 245 #[.pointer (some ⟨p, 0, none⟩), .int .i64 b] w fun e w' => e = .returned (.bool false) ∧ w = w' := by
  have HC := lru_has b w h
  rw [decide_eq_false hb] at HC
  have HC := Lib.hid HC
  clear h hb
  go_enter Tryz.func245, Tryz.ntmps245
  go_wp2_with (go_at_call 242; refine HC.out.mono ?_; rintro e W1 ⟨rfl, rfl⟩)
  go_ret
  exact ⟨rfl, rfl⟩
theorem lru_use {n : Nat} (w : World) (h : LruB w p g eb cap L) (hb : (n : Int) ∈ L) : Calls Tryz.prog 245 #[.pointer (some ⟨p, 0, none⟩), .int .i64 n] w fun e w' => e = .returned (.bool true) ∧ LruB w' p g eb cap (n :: L.erase n) ∧ Only (Two g eb) w w' := by
  have HC := lru_has (n : Int) w h
  rw [decide_eq_true hb] at HC
  have HC := Lib.hid HC
  have hn : n < 64 := by have := (h.sp.rng (i := 0) hb).2; omega
  have HF := front_ok (i := 0) w h.sp (by decide) hn
  rw [one_rem, one_front] at HF
  have HF := Lib.hid HF
  have hp : w.cell? ⟨p, 0, none⟩ = some (.pointer (some ⟨g, 0, none⟩)) := h.box.cellAt rfl
  have H := Lib.hid h
  clear h hb
  go_enter Tryz.func245, Tryz.ntmps245
  go_wp2_with (first | (go_at_call 242; refine HC.out.mono ?_; rintro e W1 ⟨rfl, rfl⟩) | (go_at_call 115; refine HF.out.mono ?_; rintro e W1 ⟨rfl, h1, h2⟩))
  go_ret
  exact ⟨rfl, H.out.step h2 h1, h2⟩
theorem lru_rem_no {b : Int} (w : World) (h : LruB w p g eb cap L) (hb : b ∉ L) : Calls Tryz.prog 244 #[.pointer (some ⟨p, 0, none⟩), .int .i64 b] w fun e w' => e = .returned (.bool false) ∧ w = w' := by
  have HC := lru_has b w h
  rw [decide_eq_false hb] at HC
  have HC := Lib.hid HC
  clear h hb
  go_enter Tryz.func244, Tryz.ntmps244
  go_wp2_with (go_at_call 242; refine HC.out.mono ?_; rintro e W1 ⟨rfl, rfl⟩)
  go_ret
  exact ⟨rfl, rfl⟩
theorem lru_rem {n : Nat} (w : World) (h : LruB w p g eb cap L) (hb : (n : Int) ∈ L) : Calls Tryz.prog 244 #[.pointer (some ⟨p, 0, none⟩), .int .i64 n] w fun e w' => e = .returned (.bool true) ∧ LruB w' p g eb cap (L.erase n) ∧ Only (Two g eb) w w' := by
  have HC := lru_has (n : Int) w h
  rw [decide_eq_true hb] at HC
  have HC := Lib.hid HC
  have HF := remove_in (i := 0) w h.sp hb
  rw [one_rem] at HF
  have HF := Lib.hid HF
  have hp : w.cell? ⟨p, 0, none⟩ = some (.pointer (some ⟨g, 0, none⟩)) := h.box.cellAt rfl
  have H := Lib.hid h
  clear h hb
  go_enter Tryz.func244, Tryz.ntmps244
  go_wp2_with (first | (go_at_call 242; refine HC.out.mono ?_; rintro e W1 ⟨rfl, rfl⟩) | (go_at_call 156; refine HF.out.mono ?_; rintro e W1 ⟨rfl, h1, h2⟩))
  go_ret
  exact ⟨rfl, H.out.step h2 h1, h2⟩
end
end Go.Proofs.YtcphifphidcbaaaGreat
