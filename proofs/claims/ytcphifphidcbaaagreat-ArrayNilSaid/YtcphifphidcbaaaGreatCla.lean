/- cache.Target where no plan says who is where; Cache.Use of what isn't there. -/
import Derived.Test.YtcphifphidcbaaaGreatCch
namespace Go.Proofs.YtcphifphidcbaaaGreat
open Go.RowKit Go.ChangeShapes Go.WideShapes
set_option linter.unusedVariables false
set_option linter.unusedSimpArgs false
section
set_option maxHeartbeats 4000000
set_option maxRecDepth 100000
theorem target_any {c : CfgA} {A : Option Addr} {n cp : Nat} (b above : Int) (w : World) (h0 : 0 ≤ b) (h1 : b < c.f 2) (h2 : 0 ≤ above) (h3 : above ≤ 2) (hp : c.f 5 ≠ 2) :
    Calls Tryz.prog 74 #[.agg (cfgCells c (.slice A n cp)), .int .i64 b, .int .i64 above] w fun e w' => e = .returned (.int .i64 (above + 1)) ∧ Only Non w w' := by
  have n0 : ¬ b < 0 := by omega
  have n1 : ¬ c.f 2 ≤ b := by omega
  have n2 : ¬ above < 0 := by omega
  have n3 : ¬ 2 < above := by omega
  have hw : IntKind.i64.wrap (above + 1) = above + 1 := by rw [IntKind.wrap_i64]; omega
  clear h0 h1 h2 h3
  go_enter Tryz.func74, Tryz.ntmps74
  go_upto_region 1 with fail
  have HB1 := Lib.hid (Box.fresh w 42 (cfgCells c (.slice A n cp)))
  have HO1 := Lib.hid ((Only.refl Non w).alloc (.cells (cfgCells c (.slice A n cp)) 42))
  generalize w.alloc (.cells (cfgCells c (.slice A n cp)) 42) = W1 at *
  generalize w.heap.size = bb at *
  have x2 : W1.cell? ⟨bb, 2, none⟩ = some (.int .i64 (c.f 2)) := HB1.out.cellAt (cfgCells_at c _ (i := 2) (by decide))
  have x5 : W1.cell? ⟨bb, 5, none⟩ = some (.int .i64 (c.f 5)) := HB1.out.cellAt (cfgCells_at c _ (i := 5) (by decide))
  generalize c.f 2 = f2 at *
  generalize c.f 5 = f5 at *
  have hpb : (f5 != 2) = true := by simpa using hp
  go_wp2_with fail
  go_ret
  exact ⟨rfl, HO1.out⟩
theorem cch_use_no {K : OKind} {i : K.ι} {w : World} {cb mb : Nat} {c : CfgA} {hv : Value} {tier : Nat} {s : K.σ} {D : Int → Option Blk} (b : Int) (h : CchB K i w cb mb c hv tier s D) (hb : b ∉ K.sp.all s) :
    Calls Tryz.prog 39 #[.pointer (some ⟨cb, 0, none⟩), .int .i64 b] w fun e w' => e = .returned (.tuple #[.slice none 0 0, .bool false]) ∧ Only Non w w' := by
  have HC := cch_has b h
  rw [decide_eq_false hb] at HC
  have HC := Lib.hid HC
  clear h hb
  go_enter Tryz.func39, Tryz.ntmps39
  go_wp2_with (go_at_call 77; refine HC.out.mono ?_; rintro e w1 ⟨rfl, h1⟩)
  go_ret2
  exact ⟨rfl, h1⟩
end
end Go.Proofs.YtcphifphidcbaaaGreat
