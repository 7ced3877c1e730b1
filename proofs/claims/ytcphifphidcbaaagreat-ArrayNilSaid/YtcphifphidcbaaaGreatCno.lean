/- cache.ordered, where it is lru. -/
import Derived.Test.YtcphifphidcbaaaGreatCch
import Derived.Test.YtcphifphidcbaaaGreatHcl
namespace Go.Proofs.YtcphifphidcbaaaGreat
open Go.RowKit Go.ChangeShapes Go.WideShapes
set_option linter.unusedVariables false
set_option linter.unusedSimpArgs false
/-- what cache.ordered gives, where the order is of the kind K -/
def OPost (K : OKind) (w : World) (e : Ending) (w' : World) : Prop := ∃ i, e = .returned (.iface K.t (K.x i)) ∧ K.R i K.s0 w' ∧ (∀ k, K.F i k → w.heap.size ≤ k) ∧ Only Non w w'
def OKind.Made (K : OKind) (c : CfgA) (tier : Nat) : Prop :=
  ∀ (w : World) (A : Option Addr) (n cp : Nat), HintsAt w A n cp c.h → Calls Tryz.prog 72 #[.agg (cfgCells c (.slice A n cp)), .int .i64 tier] w (OPost K w)
section
set_option maxHeartbeats 4000000
set_option maxRecDepth 100000
theorem lru_made {c : CfgA} {k : Nat} (hP : CfgP c) (hk : k < 3) (hp : c.f 5 ≠ 2) (hq : c.f (6 + k) ≠ 2) : (lruK (c.f (9 + k)).toNat).Made c (k + 1) := by
  intro w A n cp hin
  have hc := hP.pc k hk
  obtain ⟨cap, hcap⟩ := Int.eq_ofNat_of_zero_le (show 0 ≤ c.f (9 + k) by omega)
  rw [hcap] at hc
  rw [hcap, Int.toNat_natCast]
  have HN := fun w => lru_new (cap := cap) w (by omega) (by omega)
  have HN := Lib.hid HN
  clear hin hP hc
  have hw : IntKind.i64.wrap (((k + 1 : Nat) : Int) - 1) = k := by rw [IntKind.wrap_i64]; omega
  have hk3 : (k : Int) < 3 := by omega
  have hcell := fun (W : World) (bb : Nat) (hb : Box W bb 42 (cfgCells c (.slice A n cp))) (i : Nat) (hi : i < 16) => hb.cellAt (cfgCells_at c (.slice A n cp) hi)
  have HC := Lib.hid hcell
  have HF := Lib.hid hcap
  have HQ := Lib.hid hq
  clear hcell hcap hq
  go_enter Tryz.func72, Tryz.ntmps72
  go_upto_region 1 with fail
  have HB := Lib.hid (Box.fresh w 42 (cfgCells c (.slice A n cp)))
  have HO := Lib.hid ((Only.refl Non w).alloc (.cells (cfgCells c (.slice A n cp)) 42))
  generalize w.alloc (.cells (cfgCells c (.slice A n cp)) 42) = W1 at *
  generalize w.heap.size = bb at *
  have c5 := HC.out W1 bb HB.out 5 (by decide)
  have c6 := HC.out W1 bb HB.out (6 + k) (by omega)
  have c9 := HC.out W1 bb HB.out (9 + k) (by omega)
  rw [HF.out] at c9
  have hq := HQ.out
  generalize c.f 5 = f5 at *
  generalize c.f (6 + k) = f6 at *
  have HN1 := Lib.hid (HN.out W1)
  clear HC HF HQ HN
  go_wp2_with (go_at_call 112; refine HN1.out.mono ?_; rintro e W2 ⟨p, g, eb, rfl, h1, h2, h3, h4, h5⟩)
  go_ret
  have hsz := HO.out.size
  refine ⟨(p, g, eb), rfl, ⟨h1, Nat.zero_le _⟩, fun j hj => ?_, HO.out.trans h5⟩
  rcases hj with rfl | rfl | rfl
  · exact Nat.le_trans hsz h2
  · exact Nat.le_trans hsz h3
  · exact Nat.le_trans hsz h4
end
end Go.Proofs.YtcphifphidcbaaaGreat
