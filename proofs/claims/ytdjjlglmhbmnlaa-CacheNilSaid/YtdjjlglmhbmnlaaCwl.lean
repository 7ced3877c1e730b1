/- gradinelaw16.wakes. -/
import Derived.Test.YtdjjlglmhbmnlaaCwk
namespace Go.Proofs.Ytdjjlglmhbmnlaa
open Go.RowKit Go.ChangeShapes Go.WideShapes
set_option linter.unusedVariables false
set_option linter.unusedSimpArgs false
section
set_option maxHeartbeats 4000000
set_option maxRecDepth 100000
theorem wk_made : (lruK 1).Made lc 1 := lru_made (c := lc) (k := 0) lc_ok (by decide) (by decide) (by decide)
theorem wk_put {i : (lruK 1).ι} {W : World} {cb mb : Nat} {hv : Value} {s : List Int} {D : Int → Option Blk} (h : CchB (lruK 1) i W cb mb lc hv 1 s D) (b x : Int) (h0 : 0 ≤ b) (h1 : b < 4) :
    Calls Try.prog 11 #[.pointer (some ⟨cb, 0, none⟩), .agg #[.int .i64 b, .slice (some ⟨W.heap.size, 0, none⟩) 1 1], .int .i64 0] (W.alloc (.cells #[.int .u8 x] 5)) (PutPost (lruK 1) i cb mb lc hv 1 s D b [x] (W.alloc (.cells #[.int .u8 x] 5))) := by
  refine cch_put (h.keep ((Only.refl Non W).alloc _)) (one_byt (Box.fresh W 5 #[.int .u8 x])) (fun k hk => ?_) h0 h1 rfl 0 (fun w' hc => ?_) trivial (show 0 < maxAge by decide)
  · have := ownB_slice.1 hk
    have h2 := ((lruK 1).oc i).lt h.ord
    have h3 := h.map.lt
    exact ⟨fun e => by have := h2 k e; omega, by omega⟩
  · refine (cch_takes b 0 hc (by decide)).mono fun e w'' ⟨h2, h3⟩ => ⟨?_, h3 ▸ Only.refl _ _⟩
    rw [h2]
    have : takesP lc 1 b 0 = true := by
      unfold takesP
      rw [decide_eq_true h0, decide_eq_true (show b < lc.f 2 from h1)]
      rfl
    rw [this]
theorem wakes_any (w : World) : Calls Try.prog 6 #[] w fun e w' => e = .returned (.bool true) ∧ Only Non w w' := by
  go_enter Try.func6, Try.ntmps6
  go_wp2_with fail
  refine (least_any w).mono ?_
  rintro e W1 ⟨rfl, ho1⟩
  have HO1 := Lib.hid ho1
  clear ho1
  have HN := Lib.hid (show Calls Try.prog 8 #[.agg (cfgCells lc (.slice none 0 0)), .int .i64 1] W1 (NPost (lruK 1) lc 1 W1) from
    cch_new wk_made lc_ok (by decide) (by decide) W1 (A := none) (n := 0) (cp := 0) ⟨rfl, Nat.le_refl _, Nat.zero_le _, fun i hi => absurd hi (Nat.not_lt_zero _)⟩)
  go_wp2_with fail
  refine HN.out.mono ?_
  rintro e W2 ⟨i, cb, mb, hv, rfl, hc2, hF2, hcb2, hmb2, ho2⟩
  have HC2 := Lib.hid hc2
  have HF2 := Lib.hid hF2
  have HL2 := Lib.hid (show W1.heap.size ≤ cb ∧ W1.heap.size ≤ mb from ⟨hcb2, hmb2⟩)
  have HO2 := Lib.hid (HO1.out.trans ho2)
  have HS1 := Lib.hid HO1.out.size
  clear hc2 hF2 hcb2 hmb2 ho2 HN
  have HP := Lib.hid (wk_put HC2.out 0 7 (by decide) (by decide))
  go_wp2_with fail
  refine HP.out.mono ?_
  rintro e W3 ⟨vv, he, hc3, hn3, ho3⟩
  have hadd : (lruK 1).sp.add ([] : List Int) 0 = (([0] : List Int), 0, false) := show lruAdd 1 [] 0 = ([0], 0, false) by decide
  have he' : e = .returned (.tuple #[.agg #[.int .i64 0, .slice none 0 0], .bool false, .int .i64 0]) := by
    rw [he]
    show Ending.returned (.tuple #[.agg #[.int .i64 ((lruK 1).sp.add ([] : List Int) 0).2.1, victD _ ((lruK 1).sp.add ([] : List Int) 0).2.2 _], .bool ((lruK 1).sp.add ([] : List Int) 0).2.2, .int .i64 0]) = _
    rw [hadd]
    rfl
  subst he'
  have hc3' : CchB (lruK 1) i W3 cb mb lc hv 1 ([0] : List Int) (putD (fun _ => none) false 0 0 ([7], vv)) := by
    have := hc3
    rw [show (lruK 1).sp.add (lruK 1).s0 0 = ([0], 0, false) from hadd] at this
    exact this
  have hd3 : DatB W3 cb mb ((lruK 1).F i) 1 [7] vv := hc3'.dat 0 [7] vv rfl
  have ho3w : Only Non w W3 := (HO2.out.alloc (.cells #[.int .u8 7] 5)).trans' ho3 fun k hk => .inr (by
    have h1 := HS1.out
    have h2 := HL2.out.2
    rcases hk with hk | hk
    · have := HF2.out k hk; omega
    · omega)
  obtain ⟨g0, ca0, hvv, _⟩ := hd3.at_
  have HD3 := Lib.hid hd3
  have HC3 := Lib.hid hc3'
  have HO3 := Lib.hid ho3w
  clear he hc3 hc3' hn3 ho3 hd3 ho3w hadd HP HC2 HO2
  have HP2 := Lib.hid (wk_put HC3.out 1 8 (by decide) (by decide))
  go_wp2_with fail
  refine HP2.out.mono ?_
  rintro e W5 ⟨vv2, he, hc5, hn5, ho5⟩
  have hadd : (lruK 1).sp.add ([0] : List Int) 1 = (([1] : List Int), 0, true) := show lruAdd 1 [0] 1 = ([1], 0, true) by decide
  have he' : e = .returned (.tuple #[.agg #[.int .i64 0, .slice (some ⟨g0, 0, none⟩) 1 ca0], .bool true, .int .i64 0]) := by
    rw [he]
    show Ending.returned (.tuple #[.agg #[.int .i64 ((lruK 1).sp.add ([0] : List Int) 1).2.1, victD _ ((lruK 1).sp.add ([0] : List Int) 1).2.2 ((lruK 1).sp.add ([0] : List Int) 1).2.1], .bool ((lruK 1).sp.add ([0] : List Int) 1).2.2, .int .i64 0]) = _
    rw [hadd]
    show Ending.returned (.tuple #[.agg #[.int .i64 0, vv], .bool true, .int .i64 0]) = _
    rw [hvv]
    rfl
  subst he'
  have hd5 : Byt W5 (.slice (some ⟨g0, 0, none⟩) 1 ca0) [7] := by
    have h1 := (HD3.out.far (w' := W3.alloc (.cells #[.int .u8 8] 5)) ((Only.refl _ W3).alloc _)).far ho5
    have h2 := h1.byt
    rw [hvv] at h2
    exact h2
  have ho5w : Only Non w W5 := (HO3.out.alloc (.cells #[.int .u8 8] 5)).trans' ho5 fun k hk => .inr (by
    have h1 := HS1.out
    have h2 := HL2.out.2
    rcases hk with hk | hk
    · have := HF2.out k hk; omega
    · omega)
  have HD5 := Lib.hid hd5
  have HO5 := Lib.hid ho5w
  clear he hc5 hn5 ho5 hd5 ho5w hadd HP2 HC3 HO3 HD3 hvv
  go_upto_region 6 with (refine wpList_store_row rfl 36 _ _ rfl W5.heap.size #[.int .i64 0, .slice (some ⟨g0, 0, none⟩) 1 ca0] rfl rfl 36 _ (Box.fresh W5 36 #[.int .i64 0, .slice none 0 0]) (by kernel_rfl) rfl (by simp [Value.oneCell']) ?_)
  have ho6 : Only Non W5 ((W5.alloc (.cells #[.int .i64 0, .slice none 0 0] 36)).setRow W5.heap.size #[.int .i64 0, .slice (some ⟨g0, 0, none⟩) 1 ca0]) := ((Only.refl Non W5).alloc _).setRow' (.inr (Nat.le_refl _)) _
  have hb6 := (Box.fresh W5 36 #[.int .i64 0, .slice none 0 0]).setRow' #[.int .i64 0, .slice (some ⟨g0, 0, none⟩) 1 ca0]
  have HO6 := Lib.hid (HO5.out.trans ho6)
  have HB6 := Lib.hid hb6
  have HD6 := Lib.hid (HD5.out.only ho6 fun _ _ => id)
  change Code.wp _ _ _ _ ((W5.alloc (.cells #[.int .i64 0, .slice none 0 0] 36)).setRow W5.heap.size #[.int .i64 0, .slice (some ⟨g0, 0, none⟩) 1 ca0])
  clear ho6 hb6 HO5 HD5
  generalize (W5.alloc (.cells #[.int .i64 0, .slice none 0 0] 36)).setRow W5.heap.size #[.int .i64 0, .slice (some ⟨g0, 0, none⟩) 1 ca0] = W6 at *
  generalize W5.heap.size = fb at *
  have k0 : W6.cell? ⟨fb, 0, none⟩ = some (.int .i64 0) := HB6.out.cellAt rfl
  have k1 : W6.cell? ⟨fb, 1, none⟩ = some (.slice (some ⟨g0, 0, none⟩) 1 ca0) := HB6.out.cellAt rfl
  have HSF := Lib.hid (sameFrame_any 0 0 (W6.alloc (.cells #[.int .u8 7] 5)) (HD6.out.only ((Only.refl Non W6).alloc _) fun _ _ => id) (one_byt (Box.fresh W6 5 #[.int .u8 7])))
  go_wp2_with (go_at_call 20; refine HSF.out.mono ?_; rintro e W8 ⟨rfl, ho8⟩)
  go_ret
  exact ⟨rfl, (HO6.out.alloc _).trans ho8⟩
end
end Go.Proofs.Ytdjjlglmhbmnlaa
