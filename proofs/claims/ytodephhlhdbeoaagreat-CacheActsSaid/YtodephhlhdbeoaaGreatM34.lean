/- Several texts, one behind the other: Cjm. -/
import Derived.Test.YtodephhlhdbeoaaGreatM32
import Derived.Test.YtodephhlhdbeoaaGreatM17
import Derived.Test.YtodephhlhdbeoaaGreatM33
import Derived.Test.YtodephhlhdbeoaaGreatM27
namespace Go.Proofs.YtodephhlhdbeoaaGreat
open Go.RowKit Go.ChangeShapes Go.WideShapes
set_option linter.unusedVariables false
set_option linter.unusedSimpArgs false
def zAc2 : Array Value := #[.int .i64 0, .int .i64 0, .int .i64 0, .slice none 0 0]
structure CaI {c : CfgA} {k : Nat} {hP : CfgP c} {hk : k < 3} (i : (kOf c k hP hk).ι) (cb mb : Nat) (hv : Value) (o : RefO (kOf c k hP hk) c k) (r : RcI) (s : (kOf c k hP hk).σ) (D : Int → Option Blk) (Dr : Nat → List Int) (cfb : Nat) (cv : Value) (n : Nat) (w wr : World) : Prop where
  j : Cj i cb mb hv o r s s D Dr wr
  a : Ck (K := kOf c k hP hk) c s D Dr
  age : (kOf c k hP hk).sp.age s ≤ n
  fr : ∀ j, CjW i cb mb o r j → w.heap.size ≤ j ∧ j ≠ cfb
  cf : Box wr cfb 25 (cfgCells c cv)
  o : Only Non w wr
def CaMid (c : CfgA) (k : Nat) (hP : CfgP c) (hk : k < 3) (cb : Nat) (cfb : Nat) (cv : Value) (n : Nat) (w : World) (ab : Nat) (ac : Array Value) (xv : Value) (wr : World) : Prop :=
  ∃ (i : (kOf c k hP hk).ι) (mb : Nat) (hv : Value) (o : RefO (kOf c k hP hk) c k) (r : RcI) (s : (kOf c k hP hk).σ) (D : Int → Option Blk) (Dr : Nat → List Int), xv = .pointer (some ⟨r.cb, 0, none⟩) ∧ CaI i cb mb hv o r s D Dr cfb cv n w wr ∧ Box wr ab 40 ac
def CaRel (c : CfgA) (k : Nat) (hP : CfgP c) (hk : k < 3) (cb : Nat) (cfb : Nat) (cv : Value) (N : Nat) (w : World) (xv iv : Value) (wr : World) : Prop :=
  ∃ (n : Nat) (i : (kOf c k hP hk).ι) (mb : Nat) (hv : Value) (o : RefO (kOf c k hP hk) c k) (r : RcI) (s : (kOf c k hP hk).σ) (D : Int → Option Blk) (Dr : Nat → List Int), n ≤ N ∧ iv = .int .i64 n ∧ xv = .pointer (some ⟨r.cb, 0, none⟩) ∧ CaI i cb mb hv o r s D Dr cfb cv n w wr
section
set_option maxHeartbeats 4000000
set_option maxRecDepth 100000
theorem acts_walk (c : CfgA) (tier : Int) (L : List ActC) (A B : Option Addr) (m n : Nat) (w : World) (hin : HintsAt w A c.h.length m c.h) (hL : CActsAt w.heap.size w B L.length n L) :
    Calls Tryz.prog 3 #[.agg (cfgCells c (.slice A c.h.length m)), .int .i64 tier, .slice B L.length n] w fun e w' => e = .returned (.bool true) ∧ Only Non w w' := by
  have HIN := Lib.hid hin
  have HL := Lib.hid hL
  have hmx := Nat.le_trans hL.cap hL.max
  have hmh := Nat.le_trans hin.cap hin.max
  have HMX := Lib.hid hmx
  have HMH := Lib.hid hmh
  have HB := Lib.hid (Box.fresh w 25 (cfgCells c (.slice A c.h.length m)))
  have HO := Lib.hid ((Only.refl Non w).alloc (.cells (cfgCells c (.slice A c.h.length m)) 25))
  clear hin hL hmx hmh
  go_enter Tryz.func3, Tryz.ntmps3
  go_upto_region 1 with fail
  change Code.wp _ _ _ _ (w.alloc (.cells (cfgCells c (.slice A c.h.length m)) 25))
  generalize w.alloc (.cells (cfgCells c (.slice A c.h.length m)) 25) = W1 at *
  obtain ⟨cfb, hcf⟩ : ∃ cfb, cfb = w.heap.size := ⟨_, rfl⟩
  have HCF := Lib.hid (show w.heap.size ≤ cfb from Nat.le_of_eq hcf.symm)
  rw [← hcf] at HB ⊢
  clear hcf
  go_upto_region 3 with (go_at_call 17; refine (wakes_any W1).mono ?_; rintro e W2 ⟨rfl, ho2⟩)
  have HB2 := Lib.hid (ho2.box HB.out id)
  have HO2 := Lib.hid (HO.out.trans ho2)
  clear ho2 HB HO
  have HLG := Lib.hid (long_any (cf := c) (A := A) (m := m) (HL.out.keep HO2.out) HMH.out)
  go_upto_if 16 with (first | (refine wpList_load_row rfl 25 _ rfl cfb rfl 25 (cfgCells c (.slice A c.h.length m)) (0, 0) _ HB2.out Tryz.underlying25 rfl (by kernel_rfl) ?_) | (go_at_call 18; refine HLG.out.mono ?_; rintro e W3 ⟨rfl, ho3⟩))
  have HB3 := Lib.hid (ho3.box HB2.out id)
  have HO3 := Lib.hid (HO2.out.trans ho3)
  clear ho3 HB2 HO2 HLG
  cases hlb : longB c.h.length L with
  | true =>
    clear hlb
    go_wp2
    go_ret
    exact ⟨rfl, HO3.out⟩
  | false =>
    obtain ⟨hl1, hl2, hl3⟩ := longB_no hlb
    have HL2 := Lib.hid hl2
    have HL3 := Lib.hid hl3
    clear hlb hl1 hl2 hl3
    by_cases hP : CfgP c
    · by_cases ht1 : tier < 1
      · have hd1 : decide (tier < 1) = true := decide_eq_true ht1
        have HN := Lib.hid (cch_new_tier hP (.inl ht1) W3 (HIN.out.keep HO3.out))
        have HR := Lib.hid fun (W : World) (ho : Only Non W3 W) => (rright_any A c.h.length m c W ((HIN.out.keep HO3.out).keep ho))
        rw [cfgB_yes hP] at HR
        go_upto_region 6 with (first | (refine wpList_load_row rfl 25 _ rfl cfb rfl 25 (cfgCells c (.slice A c.h.length m)) (0, 0) _ HB3.out Tryz.underlying25 rfl (by kernel_rfl) ?_) | (go_at_call 19; refine HN.out.mono ?_; rintro e W4 ⟨rfl, ho4⟩; have HB4 := Lib.hid (ho4.box HB3.out id); have HO4 := Lib.hid (HO3.out.trans ho4); have HR4 := Lib.hid (HR.out W4 ho4); clear ho4))
        go_wp2_with (first | (refine wpList_load_row rfl 25 _ rfl cfb rfl 25 (cfgCells c (.slice A c.h.length m)) (0, 0) _ HB4.out Tryz.underlying25 rfl (by kernel_rfl) ?_) | (go_at_call 20; refine HR4.out.mono ?_; rintro e W5 ⟨rfl, ho5⟩))
        go_ret
        exact ⟨by simp, HO4.out.trans ho5⟩
      · by_cases ht3 : 3 < tier
        · have hd1 : decide (tier < 1) = false := decide_eq_false ht1
          have hd3 : decide (3 < tier) = true := decide_eq_true ht3
          have HN := Lib.hid (cch_new_tier hP (.inr ht3) W3 (HIN.out.keep HO3.out))
          have HR := Lib.hid fun (W : World) (ho : Only Non W3 W) => (rright_any A c.h.length m c W ((HIN.out.keep HO3.out).keep ho))
          rw [cfgB_yes hP] at HR
          go_upto_region 6 with (first | (refine wpList_load_row rfl 25 _ rfl cfb rfl 25 (cfgCells c (.slice A c.h.length m)) (0, 0) _ HB3.out Tryz.underlying25 rfl (by kernel_rfl) ?_) | (go_at_call 19; refine HN.out.mono ?_; rintro e W4 ⟨rfl, ho4⟩; have HB4 := Lib.hid (ho4.box HB3.out id); have HO4 := Lib.hid (HO3.out.trans ho4); have HR4 := Lib.hid (HR.out W4 ho4); clear ho4))
          go_wp2_with (first | (refine wpList_load_row rfl 25 _ rfl cfb rfl 25 (cfgCells c (.slice A c.h.length m)) (0, 0) _ HB4.out Tryz.underlying25 rfl (by kernel_rfl) ?_) | (go_at_call 20; refine HR4.out.mono ?_; rintro e W5 ⟨rfl, ho5⟩))
          go_ret
          exact ⟨by simp, HO4.out.trans ho5⟩
        · obtain ⟨k, hk⟩ : ∃ k : Nat, tier = ((k + 1 : Nat) : Int) := ⟨(tier - 1).toNat, by omega⟩
          have hk3 : k < 3 := by omega
          have hd1 : decide (tier < 1) = false := decide_eq_false ht1
          have hd3 : decide (3 < tier) = false := decide_eq_false ht3
          have HK := Lib.hid hk3
          have HTK := Lib.hid hk
          have HN := Lib.hid (show Calls Tryz.prog 19 #[.agg (cfgCells c (.slice A c.h.length m)), .int .i64 tier] W3 (NPost (kOf c k hP HK.out) c (k + 1) W3) by
            rw [hk]; exact cch_new (kOf_made hP HK.out) hP (by omega) (by omega) W3 (HIN.out.keep HO3.out))
          have HNR := Lib.hid (show ∀ W, Only Non W3 W → Calls Tryz.prog 21 #[.agg (cfgCells c (.slice A c.h.length m)), .int .i64 tier] W (RNewG (kOf c k hP HK.out) c k W) by
            intro W ho
            rw [hk]; exact rch_new hP HK.out W ((HIN.out.keep HO3.out).keep ho))
          have HNS := Lib.hid (show ∀ W, Only Non w W → Calls Tryz.prog 21 #[.agg (cfgCells c (.slice A c.h.length m)), .int .i64 tier] W (RNewG (kOf c k hP HK.out) c k W) by
            intro W ho
            rw [hk]; exact rch_new hP HK.out W (HIN.out.keep ho))
          have HA0 := Lib.hid (kOf_age0 (hP := hP) (hk := HK.out))
          have HAL0 := Lib.hid (kOf c k hP HK.out).nil
          have HR := Lib.hid fun (W : World) (ho : Only Non W3 W) => (rright_any A c.h.length m c W ((HIN.out.keep HO3.out).keep ho))
          rw [cfgB_yes hP] at HR
          have HPP := Lib.hid hP
          clear ht1 ht3 hk hk3
          go_upto_region 6 with (first | (refine wpList_load_row rfl 25 _ rfl cfb rfl 25 (cfgCells c (.slice A c.h.length m)) (0, 0) _ HB3.out Tryz.underlying25 rfl (by kernel_rfl) ?_) | (go_at_call 19; refine HN.out.mono ?_; rintro e W4 ⟨i0, cb, mb0, hv0, rfl, hc4, hF4, hcb4, hmb4, hhv4, ho4⟩; have HC4 := Lib.hid hc4; have HF4 := Lib.hid hF4; have HL4 := Lib.hid (show W3.heap.size ≤ cb ∧ W3.heap.size ≤ mb0 from ⟨hcb4, hmb4⟩); have HB4 := Lib.hid (ho4.box HB3.out id); have HO4 := Lib.hid ho4; have HR4 := Lib.hid (HR.out W4 ho4); clear hc4 hF4 hcb4 hmb4 hhv4 ho4))
          go_upto_region 8 with (first | (refine wpList_load_row rfl 25 _ rfl cfb rfl 25 (cfgCells c (.slice A c.h.length m)) (0, 0) _ HB4.out Tryz.underlying25 rfl (by kernel_rfl) ?_) | (go_at_call 20; refine HR4.out.mono ?_; rintro e W5 ⟨rfl, ho5⟩))
          have HB5 := Lib.hid (ho5.box HB4.out id)
          have HC5 := Lib.hid (HC4.out.keep ho5)
          have HO5 := Lib.hid (HO4.out.trans ho5)
          have HNR5 := Lib.hid (HNR.out W5 HO5.out)
          have HLT5 := Lib.hid (show ∀ j, cchBlk (kOf c k hP HK.out) i0 cb mb0 c hv0 (fun _ => none) j → j < W5.heap.size from fun j hj => HC5.out.blkLt hj)
          clear ho5 HO4 HR4 HR HN HNR hd1 hd3
          go_upto_region 9 with (first | (refine wpList_load_row rfl 25 _ rfl cfb rfl 25 (cfgCells c (.slice A c.h.length m)) (0, 0) _ HB5.out Tryz.underlying25 rfl (by kernel_rfl) ?_) | (go_at_call 21; refine HNR5.out.mono ?_; rintro e W6 ⟨o0, r0, rfl, h1, h2, h3⟩; have HR6 := Lib.hid h1; have HF6 := Lib.hid h2; have HO6 := Lib.hid h3; clear h1 h2 h3))
          have HI0 := Lib.hid (show CaI i0 cb mb0 hv0 o0 r0 (kOf c k hP HK.out).s0 (fun _ => none) (fun _ => []) cfb (.slice A c.h.length m) 0 w W6 from
            { j := ⟨HC5.out.keep HO6.out, HR6.out, fun j hj e => by have := HF6.out j hj; have := HLT5.out j e; omega, fun j hj => by
                have h1 : j < W5.heap.size := HLT5.out j (hj.elim .inl fun h => h.elim (fun h => .inr (.inl h)) fun h => .inr (.inr (.inl h)))
                have h2 := HF6.out r0.cb (.inr (.inl rfl))
                have h3 := HR6.out.ltW (j := r0.cb) (.inr (.inl rfl))
                omega⟩
              a := ⟨fun b l v h => (by cases h), fun b hb => by rw [HAL0.out] at hb; cases hb⟩
              age := by rw [HA0.out]; exact Nat.le_refl _
              fr := fun j hj => by
                have h0 := HO3.out.size
                have h1 := HB3.out.lt
                have h2 := HL4.out
                have h3 := HO5.out.size
                rcases hj with (hj | rfl | rfl) | hj
                · have := HF4.out j hj; omega
                · omega
                · omega
                · have := HF6.out j hj; omega
              cf := HO6.out.box HB5.out id
              o := (HO3.out.trans HO5.out).trans HO6.out })
          clear HB3 HB4 HB5 HC4 HC5 HF4 HL4 HO5 HNR5 HLT5 HR6 HF6 HO6 HO3
          go_upto_region 10 with fail
          go_loopw [9, 45] (fun xv iv wr => CaRel c k hP HK.out cb cfb (.slice A c.h.length m) L.length w xv iv wr) (fun _ iv _ => L.length - (intOf iv).toNat)
          case atStart => exact ⟨0, i0, mb0, hv0, o0, r0, _, _, _, Nat.zero_le _, rfl, rfl, HI0.out⟩
          case round =>
            clear HI0
            obtain ⟨j, i, mb, hv, o, r, s, D, Dr, hj, rfl, rfl, hI⟩ := hrel
            have HI := Lib.hid hI
            clear hI
            by_cases hlt : j < L.length
            · obtain ⟨g, o1, dv, rfl, hg, hcl, hby, hdj⟩ := (HL.out.keep HI.out.o).at_ j hlt
              have hd100 := HL3.out j hlt
              have hltj : (j : Int) < L.length := by omega
              have hj1000 : (j : Int) < 1000 := by have := HL2.out; omega
              have HLT := Lib.hid hlt
              have HBY := Lib.hid hby
              have HDJ := Lib.hid hdj
              have HD100 := Lib.hid hd100
              have HCL := Lib.hid hcl
              clear hcl hby hdj hlt hj hd100
              generalize L.getD j default = a at *
              obtain ⟨dA, dc, rfl, _⟩ := id HBY.out
              have y0 : wr.cell? ⟨g, o1 + j * 4, none⟩ = some (.int .i64 a.kind) := HCL.out 0 _ rfl
              have y1 : wr.cell? ⟨g, o1 + j * 4 + 1, none⟩ = some (.int .i64 a.level) := HCL.out 1 _ rfl
              have y2 : wr.cell? ⟨g, o1 + j * 4 + 2, none⟩ = some (.int .i64 a.b) := HCL.out 2 _ rfl
              have y3 : wr.cell? ⟨g, o1 + j * 4 + 3, none⟩ = some (.slice dA a.data.length dc) := HCL.out 3 _ rfl
              clear HCL
              go_upto_region 12 with (refine wpList_store_row rfl 40 _ _ rfl wr.heap.size (actC a (.slice dA a.data.length dc)) rfl rfl 40 _ (Box.fresh wr 40 zAc2) (by kernel_rfl) rfl (by simp [actC, Value.oneCell']) ?_)
              have ho6 : Only Non wr ((wr.alloc (.cells zAc2 40)).setRow wr.heap.size (actC a (.slice dA a.data.length dc))) := ((Only.refl Non wr).alloc _).setRow' (.inr (Nat.le_refl _)) _
              have HA6 := Lib.hid ((Box.fresh wr 40 zAc2).setRow' (actC a (.slice dA a.data.length dc)))
              have HNW := Lib.hid (HI.out.j.notW (Nat.le_refl _))
              have HWAB := Lib.hid (show w.heap.size ≤ wr.heap.size from HI.out.o.size)
              have HI6 := Lib.hid (show CaI i cb mb hv o r s D Dr cfb (.slice A c.h.length m) j w _ from ⟨HI.out.j.keep ho6, HI.out.a, HI.out.age, HI.out.fr, ho6.box HI.out.cf id, HI.out.o.trans ho6⟩)
              have HBY6 := Lib.hid (HBY.out.keep ho6 fun _ _ _ _ => id)
              change Code.wp _ _ _ _ ((wr.alloc (.cells zAc2 40)).setRow wr.heap.size (actC a (.slice dA a.data.length dc)))
              clear y0 y1 y2 y3 ho6 HI HBY
              generalize (wr.alloc (.cells zAc2 40)).setRow wr.heap.size (actC a (.slice dA a.data.length dc)) = W7 at *
              generalize wr.heap.size = ab at *
              have z0 : W7.cell? ⟨ab, 0, none⟩ = some (.int .i64 a.kind) := HA6.out.cellAt rfl
              have HNB := Lib.hid (show ab ≠ cfb ∧ w.heap.size ≤ ab from ⟨(HI6.out.cf.off HA6.out (by decide)).symm, HWAB.out⟩)
              go_upto_if 51 with fail
              go_cut [9] (fun xv wx => CaMid c k hP HK.out cb cfb (.slice A c.h.length m) (j + 1) w ab (actC a (.slice dA a.data.length dc)) xv wx)
              case first =>
                by_cases h4 : a.kind = 4
                · have h4b : (a.kind == 4) = true := by simpa using h4
                  have HCL := Lib.hid (cch_clear (kOf_made hP HK.out) HI6.out.j.ch)
                  clear h4
                  go_upto_region 14 with (go_at_call 22; refine HCL.out.mono ?_; rintro e W8 ⟨i', rfl, h1, h2, h3⟩; have HC8 := Lib.hid h1; have HF8 := Lib.hid h2; have HO8 := Lib.hid h3; clear h1 h2 h3)
                  have HP8 := Lib.hid (show Only (PrW (kOf c k hP HK.out) i cb mb) W7 W8 from HO8.out.mono fun x hx => .inl (.inr (hx.elim .inr .inl)))
                  have HB8 := Lib.hid (HP8.out.box HI6.out.cf fun e => (HI6.out.fr cfb (.inl e)).2 rfl)
                  have HA8 := Lib.hid (HP8.out.box HA6.out HNW.out.1)
                  have HW8 := Lib.hid (show Only Non w W8 from HI6.out.o.trans' HP8.out fun x hx => .inr (HI6.out.fr x (.inl hx)).1)
                  have HN8 := Lib.hid (HNS.out W8 HW8.out)
                  have HLT8 := Lib.hid (show ∀ x, cchBlk (kOf c k hP HK.out) i' cb mb c hv (fun _ => none) x → x < W8.heap.size from fun x hx => HC8.out.blkLt hx)
                  go_wp2_with (first | (refine wpList_load_row rfl 25 _ rfl cfb rfl 25 (cfgCells c (.slice A c.h.length m)) (0, 0) _ HB8.out Tryz.underlying25 rfl (by kernel_rfl) ?_) | (go_at_call 21; refine HN8.out.mono ?_; rintro e W9 ⟨o', r', rfl, h1, h2, h3⟩; have HR9 := Lib.hid h1; have HF9 := Lib.hid h2; have HO9 := Lib.hid h3; clear h1 h2 h3))
                  go_meet
                  case rel =>
                    refine ⟨i', mb, hv, o', r', _, _, _, rfl, { j := ⟨HC8.out.keep HO9.out, HR9.out, fun x hx e => by have := HF9.out x hx; have := HLT8.out x e; omega, fun x hx => ?_⟩, a := ⟨fun b l v h => (by cases h), fun b hb => by rw [HAL0.out] at hb; cases hb⟩, age := by rw [HA0.out]; omega, fr := fun x hx => ?_, cf := HO9.out.box HB8.out id, o := HW8.out.trans HO9.out }, HO9.out.box HA8.out id⟩
                    · have h1 : x < W8.heap.size := HLT8.out x (hx.elim .inl fun h => h.elim (fun h => .inr (.inl h)) fun h => .inr (.inr (.inl h)))
                      have h2 := HF9.out r'.cb (.inr (.inl rfl))
                      have h3 := HR9.out.ltW (j := r'.cb) (.inr (.inl rfl))
                      omega
                    · have h1 := HI6.out.cf.lt
                      have h2 := HI6.out.o.size
                      have h3 := HP8.out.size
                      rcases hx with (hx | rfl | rfl) | hx
                      · have := HF8.out x hx; omega
                      · exact HI6.out.fr _ (.inl (.inr (.inl rfl)))
                      · exact HI6.out.fr _ (.inl (.inr (.inr rfl)))
                      · have := HF9.out x hx; omega
                · have h4b : (a.kind == 4) = false := by simpa using h4
                  have HDO := Lib.hid (do_any (a := a) HI6.out.j HI6.out.a HBY6.out (fun h0 x hx e => by have := HDJ.out x h0 hx; have := (HI6.out.fr x e).1; omega) (by have := HD100.out; omega) (by have := HI6.out.age; have := HL2.out; have := HLT.out; unfold maxAge; omega))
                  clear h4
                  go_wp2_with (first | (refine wpList_load_row rfl 40 _ rfl ab rfl 40 (actC a (.slice dA a.data.length dc)) (0, 0) _ HA6.out Tryz.underlying40 rfl (by kernel_rfl) ?_) | (go_at_call 23; refine HDO.out.mono ?_; rintro e W8 ⟨s', D', Dr', rfl, h1, h2, h3, h5⟩; have HJ8 := Lib.hid h1; have HE8 := Lib.hid h2; have HG8 := Lib.hid h3; have HO8 := Lib.hid h5; clear h1 h2 h3 h5))
                  go_meet
                  case rel =>
                    exact ⟨i, mb, hv, o, r, s', D', Dr', rfl, { j := HJ8.out, a := HE8.out, age := by have := HG8.out; have := HI6.out.age; omega, fr := HI6.out.fr, cf := HO8.out.box HI6.out.cf fun e => (HI6.out.fr cfb e).2 rfl, o := HI6.out.o.trans' HO8.out fun x hx => .inr (HI6.out.fr x hx).1 }, HO8.out.box HA6.out fun e => e.elim HNW.out.1 HNW.out.2⟩
              case rest =>
                clear HI6 HBY6 HA6 z0 HNW HDJ HD100
                obtain ⟨i, mb, hv, o, r, s, D, Dr, rfl, hJ, hA⟩ := hcut
                have HJ := Lib.hid hJ
                have HA := Lib.hid hA
                clear hJ hA
                obtain ⟨W8, e8⟩ : ∃ W8, W8 = wc := ⟨_, rfl⟩
                subst e8
                have HN := Lib.hid (show ((kOf c k hP HK.out).sp.all s).length ≤ 32 from by have h1 := kOf_cap HJ.out.j.ch.ord; have := HPP.out.pc k HK.out; omega)
                generalize hal : (kOf c k hP HK.out).sp.all s = al at *
                go_upto_region 17 with fail
                obtain ⟨isb, hisb⟩ : ∃ x, x = decide (a.b ∈ al) := ⟨_, rfl⟩
                have HBB := Lib.hid hisb.symm
                obtain ⟨tkb, htkb⟩ : ∃ x, x = takesB c k a.b a.level := ⟨_, rfl⟩
                have HTT := Lib.hid htkb.symm
                clear hisb htkb
                have HOa := Lib.hid (show Only Non W8 W8.drew from (Only.refl Non W8).drew)
                have k1 : W8.drew.cell? ⟨ab, 1, none⟩ = some (.int .i64 a.level) := HA.out.cellAt rfl
                have k2 : W8.drew.cell? ⟨ab, 2, none⟩ = some (.int .i64 a.b) := HA.out.cellAt rfl
                refine wp_region_tail (S := (fun w' : World => w'.cell? ⟨ab, 1, none⟩ = some (.int .i64 a.level) ∧ w'.cell? ⟨ab, 2, none⟩ = some (.int .i64 a.b))) 43 (by kernel_rfl) (by kernel_rfl) ?_ ?_
                · exact ⟨by assumption, by assumption⟩
                intro hSS
                refine wpHd_take (i := 0) (v := ?_) (by kernel_rfl) rfl (by kernel_rfl) (fun _ _ _ h => h) (.inl ⟨by rfl, ?_⟩) hSS ?_
                rotate_left
                · intro w hSw; (try dsimp only at hSw); go_simp; (try with_reducible rfl)
                refine wpHd_take (i := 2) (v := ?_) (by kernel_rfl) rfl (by kernel_rfl) (fun _ _ _ h => h) (.inl ⟨by rfl, ?_⟩) hSS ?_
                rotate_left
                · intro w hSw; (try dsimp only at hSw); go_simp; (try with_reducible rfl)
                try simp only [Act.put, List.getElem_toArray, List.getElem_cons_succ, List.getElem_cons_zero, List.setIfInBounds_toArray, List.set_cons_zero, List.set_cons_succ]
                refine wpHd_one (i := 1) rfl (by kernel_rfl) (fun K hK => ?_)
                go_simp
                refine (cch_all (HJ.out.j.keep HOa.out).ch).mono ?_
                rintro e V1 ⟨v1, rfl, hv1, ho⟩
                rw [hal] at hv1
                obtain ⟨A1, c1, rfl, hx1, hy1⟩ := hv1.shape
                have HV1 := Lib.hid hv1.at
                clear hv1
                have HOa1 := Lib.hid (HOa.out.trans ho)
                have k1 := ho.cell hSS.1 id
                have k2 := ho.cell hSS.2 id
                clear ho
                refine hK.out _ _ ?_ (fun hSS => ?_)
                · exact ⟨by assumption, by assumption⟩
                clear hK
                try simp only [Act.put, List.getElem_toArray, List.getElem_cons_succ, List.getElem_cons_zero, List.setIfInBounds_toArray, List.set_cons_zero, List.set_cons_succ]
                refine wpHd_one (i := 3) rfl (by kernel_rfl) (fun K hK => ?_)
                go_simp
                refine (rch_all (HJ.out.j.keep HOa1.out).rc HJ.out.j.inv).mono ?_
                rintro e V2 ⟨v2, rfl, hv2, ho⟩
                rw [hal] at hv2
                obtain ⟨A2, c2, rfl, hx2, hy2⟩ := hv2.shape
                have HV2 := Lib.hid hv2.at
                have HV1 := Lib.hid (HV1.out.keep ho fun _ _ _ _ _ => id)
                clear hv2
                have HOa2 := Lib.hid (HOa1.out.trans ho)
                have k1 := ho.cell hSS.1 id
                have k2 := ho.cell hSS.2 id
                clear ho
                refine hK.out _ _ ?_ (fun hSS => ?_)
                · exact ⟨by assumption, by assumption⟩
                clear hK
                try simp only [Act.put, List.getElem_toArray, List.getElem_cons_succ, List.getElem_cons_zero, List.setIfInBounds_toArray, List.set_cons_zero, List.set_cons_succ]
                refine wpHd_one (i := 4) rfl (by kernel_rfl) (fun K hK => ?_)
                go_simp
                have hsi := sameInts_any A1 A2 c1 c2 al al V2 HV1.out HV2.out (Nat.le_trans hx1 hy1) (Nat.le_trans hx2 hy2)
                rw [decide_eq_true (rfl : al = al)] at hsi
                clear hx1 hy1 hx2 hy2
                refine (hsi).mono ?_
                rintro e V3 ⟨rfl, mm, rfl⟩
                have ho : Only Non V2 (V2.drewN mm) := (Only.refl _ _).drewN _
                have HOa3 := Lib.hid (HOa2.out.trans ho)
                have k1 := ho.cell hSS.1 id
                have k2 := ho.cell hSS.2 id
                clear ho
                clear hsi
                refine hK.out _ _ ?_ (fun hSS => ?_)
                · exact ⟨by assumption, by assumption⟩
                clear hK
                refine wpHd_take (i := 5) (v := ?_) (by kernel_rfl) rfl (by kernel_rfl) (fun _ _ _ h => h) (.inl ⟨by rfl, ?_⟩) hSS ?_
                rotate_left
                · intro w hSw; (try dsimp only at hSw); go_simp; (try with_reducible rfl)
                refine wpHd_take (i := 6) (v := ?_) (by kernel_rfl) rfl (by kernel_rfl) (fun _ _ _ h => h) (.inl ⟨by rfl, ?_⟩) hSS ?_
                rotate_left
                · intro w hSw; (try dsimp only at hSw); go_simp; (try with_reducible rfl)
                refine wpHd_take (i := 7) (v := ?_) (by kernel_rfl) rfl (by kernel_rfl) (fun _ _ _ h => h) (.inl ⟨by rfl, ?_⟩) hSS ?_
                rotate_left
                · intro w hSw; (try dsimp only at hSw); go_simp; (try with_reducible rfl)
                refine wpHd_take (i := 9) (v := ?_) (by kernel_rfl) rfl (by kernel_rfl) (fun _ _ _ h => h) (.inl ⟨by rfl, ?_⟩) hSS ?_
                rotate_left
                · intro w hSw; (try dsimp only at hSw); go_simp; (try with_reducible rfl)
                try simp only [Act.put, List.getElem_toArray, List.getElem_cons_succ, List.getElem_cons_zero, List.setIfInBounds_toArray, List.set_cons_zero, List.set_cons_succ]
                refine wpHd_one (i := 8) rfl (by kernel_rfl) (fun K hK => ?_)
                go_simp
                have hln := cch_len (HJ.out.j.keep HOa3.out).ch
                rw [hal] at hln
                refine (hln).mono ?_
                rintro e V4 ⟨rfl, ho⟩
                have HOa4 := Lib.hid (HOa3.out.trans ho)
                have k1 := ho.cell hSS.1 id
                have k2 := ho.cell hSS.2 id
                clear ho
                clear hln
                refine hK.out _ _ ?_ (fun hSS => ?_)
                · exact ⟨by assumption, by assumption⟩
                clear hK
                try simp only [Act.put, List.getElem_toArray, List.getElem_cons_succ, List.getElem_cons_zero, List.setIfInBounds_toArray, List.set_cons_zero, List.set_cons_succ]
                refine wpHd_one (i := 10) rfl (by kernel_rfl) (fun K hK => ?_)
                go_simp
                refine (rch_all (HJ.out.j.keep HOa4.out).rc HJ.out.j.inv).mono ?_
                rintro e V5 ⟨v3, rfl, hv3, ho⟩
                rw [hal] at hv3
                obtain ⟨A3, c3, rfl, _, _⟩ := hv3.shape
                clear hv3
                have HOa5 := Lib.hid (HOa4.out.trans ho)
                have k1 := ho.cell hSS.1 id
                have k2 := ho.cell hSS.2 id
                clear ho
                refine hK.out _ _ ?_ (fun hSS => ?_)
                · exact ⟨by assumption, by assumption⟩
                clear hK
                refine wpHd_take (i := 11) (v := ?_) (by kernel_rfl) rfl (by kernel_rfl) (fun _ _ _ h => h) (.inl ⟨by rfl, ?_⟩) hSS ?_
                rotate_left
                · intro w hSw; (try dsimp only at hSw); go_simp; (try with_reducible rfl)
                refine wpHd_take (i := 12) (v := ?_) (by kernel_rfl) rfl (by kernel_rfl) (fun _ _ _ h => h) (.inl ⟨by rfl, ?_⟩) hSS ?_
                rotate_left
                · intro w hSw; (try dsimp only at hSw); go_simp; (try with_reducible rfl)
                refine wpHd_take (i := 13) (v := ?_) (by kernel_rfl) rfl (by kernel_rfl) (fun _ _ _ h => h) (.inl ⟨by rfl, ?_⟩) hSS ?_
                rotate_left
                · intro w hSw; (try dsimp only at hSw); go_simp; (try with_reducible rfl)
                refine wpHd_take (i := 14) (v := ?_) (by kernel_rfl) rfl (by kernel_rfl) (fun _ _ _ h => h) (.inl ⟨by rfl, ?_⟩) hSS ?_
                rotate_left
                · intro w hSw; (try dsimp only at hSw); go_simp; (try with_reducible rfl)
                refine wpHd_take (i := 15) (v := ?_) (by kernel_rfl) rfl (by kernel_rfl) (fun _ _ _ h => h) (.inl ⟨by rfl, ?_⟩) hSS ?_
                rotate_left
                · intro w hSw; (try dsimp only at hSw); go_simp; (try with_reducible rfl)
                try simp only [Act.put, List.getElem_toArray, List.getElem_cons_succ, List.getElem_cons_zero, List.setIfInBounds_toArray, List.set_cons_zero, List.set_cons_succ]
                refine wpHd_take (i := 16) (v := ?_) (by kernel_rfl) rfl (by kernel_rfl) (fun _ _ _ h => h) (.inl ⟨by rfl, ?_⟩) hSS ?_
                rotate_left
                · intro w hSw; (try dsimp only at hSw); go_simp; (try with_reducible rfl)
                refine wpHd_take (i := 17) (v := ?_) (by kernel_rfl) rfl (by kernel_rfl) (fun _ _ _ h => h) (.inl ⟨by rfl, ?_⟩) hSS ?_
                rotate_left
                · intro w hSw; (try dsimp only at hSw); go_simp; (try with_reducible rfl)
                refine wpHd_take (i := 18) (v := ?_) (by kernel_rfl) rfl (by kernel_rfl) (fun _ _ _ h => h) (.inl ⟨by rfl, ?_⟩) hSS ?_
                rotate_left
                · intro w hSw; (try dsimp only at hSw); go_simp; (try with_reducible rfl)
                refine wpHd_take (i := 20) (v := ?_) (by kernel_rfl) rfl (by kernel_rfl) (fun _ _ _ h => h) (.inl ⟨by rfl, ?_⟩) hSS ?_
                rotate_left
                · intro w hSw; (try dsimp only at hSw); go_simp; (try with_reducible rfl)
                refine wpHd_take (i := 21) (v := ?_) (by kernel_rfl) rfl (by kernel_rfl) (fun _ _ _ h => h) (.inl ⟨by rfl, ?_⟩) hSS ?_
                rotate_left
                · intro w hSw; (try dsimp only at hSw); go_simp; (try with_reducible rfl)
                try simp only [Act.put, List.getElem_toArray, List.getElem_cons_succ, List.getElem_cons_zero, List.setIfInBounds_toArray, List.set_cons_zero, List.set_cons_succ]
                refine wpHd_take (i := 22) (v := ?_) (by kernel_rfl) rfl (by kernel_rfl) (fun _ _ _ h => h) (.inl ⟨by rfl, ?_⟩) hSS ?_
                rotate_left
                · intro w hSw; (try dsimp only at hSw); go_simp; (try with_reducible rfl)
                refine wpHd_take (i := 23) (v := ?_) (by kernel_rfl) rfl (by kernel_rfl) (fun _ _ _ h => h) (.inl ⟨by rfl, ?_⟩) hSS ?_
                rotate_left
                · intro w hSw; (try dsimp only at hSw); go_simp; (try with_reducible rfl)
                try simp only [Act.put, List.getElem_toArray, List.getElem_cons_succ, List.getElem_cons_zero, List.setIfInBounds_toArray, List.set_cons_zero, List.set_cons_succ]
                refine wpHd_one (i := 19) rfl (by kernel_rfl) (fun K hK => ?_)
                go_simp
                have hhs := cch_has a.b (HJ.out.j.keep HOa5.out).ch
                rw [hal, HBB.out] at hhs
                refine (hhs).mono ?_
                rintro e V6 ⟨rfl, ho⟩
                have HOa6 := Lib.hid (HOa5.out.trans ho)
                have k1 := ho.cell hSS.1 id
                have k2 := ho.cell hSS.2 id
                clear ho
                clear hhs
                refine hK.out _ _ ?_ (fun hSS => ?_)
                · exact ⟨by assumption, by assumption⟩
                clear hK
                try simp only [Act.put, List.getElem_toArray, List.getElem_cons_succ, List.getElem_cons_zero, List.setIfInBounds_toArray, List.set_cons_zero, List.set_cons_succ]
                refine wpHd_one (i := 24) rfl (by kernel_rfl) (fun K hK => ?_)
                go_simp
                have hhs := rch_has (b := a.b) (HJ.out.j.keep HOa6.out).rc HJ.out.j.inv
                rw [hal, HBB.out] at hhs
                refine (hhs).mono ?_
                rintro e V7 ⟨rfl, ho⟩
                have HOa7 := Lib.hid (HOa6.out.trans ho)
                have k1 := ho.cell hSS.1 id
                have k2 := ho.cell hSS.2 id
                clear ho
                clear hhs
                refine hK.out _ _ ?_ (fun hSS => ?_)
                · exact ⟨by assumption, by assumption⟩
                clear hK
                refine wpHd_take (i := 25) (v := ?_) (by kernel_rfl) rfl (by kernel_rfl) (fun _ _ _ h => h) (.inl ⟨by rfl, ?_⟩) hSS ?_
                rotate_left
                · intro w hSw; (try dsimp only at hSw); go_simp; (try with_reducible rfl)
                refine wpHd_take (i := 26) (v := ?_) (by kernel_rfl) rfl (by kernel_rfl) (fun _ _ _ h => h) (.inl ⟨by rfl, ?_⟩) hSS ?_
                rotate_left
                · intro w hSw; (try dsimp only at hSw); go_simp; (try with_reducible rfl)
                refine wpHd_take (i := 27) (v := ?_) (by kernel_rfl) rfl (by kernel_rfl) (fun _ _ _ h => h) (.inl ⟨by rfl, ?_⟩) hSS ?_
                rotate_left
                · intro w hSw; (try dsimp only at hSw); go_simp; (try with_reducible rfl)
                refine wpHd_take (i := 28) (v := ?_) (by kernel_rfl) rfl (by kernel_rfl) (fun _ _ _ h => h) (.inl ⟨by rfl, ?_⟩) hSS ?_
                rotate_left
                · intro w hSw; (try dsimp only at hSw); go_simp; (try with_reducible rfl)
                refine wpHd_take (i := 29) (v := ?_) (by kernel_rfl) rfl (by kernel_rfl) (fun _ _ _ h => h) (.inl ⟨by rfl, ?_⟩) hSS ?_
                rotate_left
                · intro w hSw; (try dsimp only at hSw); go_simp; (try with_reducible rfl)
                try simp only [Act.put, List.getElem_toArray, List.getElem_cons_succ, List.getElem_cons_zero, List.setIfInBounds_toArray, List.set_cons_zero, List.set_cons_succ]
                refine wpHd_take (i := 30) (v := ?_) (by kernel_rfl) rfl (by kernel_rfl) (fun _ _ _ h => h) (.inl ⟨by rfl, ?_⟩) hSS ?_
                rotate_left
                · intro w hSw; (try dsimp only at hSw); go_simp; (try with_reducible rfl)
                refine wpHd_take (i := 31) (v := ?_) (by kernel_rfl) rfl (by kernel_rfl) (fun _ _ _ h => h) (.inl ⟨by rfl, ?_⟩) hSS ?_
                rotate_left
                · intro w hSw; (try dsimp only at hSw); go_simp; (try with_reducible rfl)
                refine wpHd_take (i := 32) (v := ?_) (by kernel_rfl) rfl (by kernel_rfl) (fun _ _ _ h => h) (.inl ⟨by rfl, ?_⟩) hSS ?_
                rotate_left
                · intro w hSw; (try dsimp only at hSw); go_simp; (try with_reducible rfl)
                refine wpHd_take (i := 33) (v := ?_) (by kernel_rfl) rfl (by kernel_rfl) (fun _ _ _ h => h) (.inl ⟨by rfl, ?_⟩) hSS ?_
                rotate_left
                · intro w hSw; (try dsimp only at hSw); go_simp; (try with_reducible rfl)
                refine wpHd_take (i := 35) (v := ?_) (by kernel_rfl) rfl (by kernel_rfl) (fun _ _ _ h => h) (.inl ⟨by rfl, ?_⟩) hSS ?_
                rotate_left
                · intro w hSw; (try dsimp only at hSw); go_simp; (try with_reducible rfl)
                try simp only [Act.put, List.getElem_toArray, List.getElem_cons_succ, List.getElem_cons_zero, List.setIfInBounds_toArray, List.set_cons_zero, List.set_cons_succ]
                refine wpHd_take (i := 36) (v := ?_) (by kernel_rfl) rfl (by kernel_rfl) (fun _ _ _ h => h) (.inl ⟨by rfl, ?_⟩) hSS ?_
                rotate_left
                · intro w hSw; (try dsimp only at hSw); go_simp; (try with_reducible rfl)
                refine wpHd_take (i := 37) (v := ?_) (by kernel_rfl) rfl (by kernel_rfl) (fun _ _ _ h => h) (.inl ⟨by rfl, ?_⟩) hSS ?_
                rotate_left
                · intro w hSw; (try dsimp only at hSw); go_simp; (try with_reducible rfl)
                refine wpHd_take (i := 38) (v := ?_) (by kernel_rfl) rfl (by kernel_rfl) (fun _ _ _ h => h) (.inl ⟨by rfl, ?_⟩) hSS ?_
                rotate_left
                · intro w hSw; (try dsimp only at hSw); go_simp; (try with_reducible rfl)
                refine wpHd_take (i := 39) (v := ?_) (by kernel_rfl) rfl (by kernel_rfl) (fun _ _ _ h => h) (.inl ⟨by rfl, ?_⟩) hSS ?_
                rotate_left
                · intro w hSw; (try dsimp only at hSw); go_simp; (try with_reducible rfl)
                refine wpHd_take (i := 40) (v := ?_) (by kernel_rfl) rfl (by kernel_rfl) (fun _ _ _ h => h) (.inl ⟨by rfl, ?_⟩) hSS ?_
                rotate_left
                · intro w hSw; (try dsimp only at hSw); go_simp; (try with_reducible rfl)
                try simp only [Act.put, List.getElem_toArray, List.getElem_cons_succ, List.getElem_cons_zero, List.setIfInBounds_toArray, List.set_cons_zero, List.set_cons_succ]
                refine wpHd_one (i := 34) rfl (by kernel_rfl) (fun K hK => ?_)
                go_simp
                have htk := takes_any a.b a.level (HJ.out.j.keep HOa7.out).ch
                rw [HTT.out] at htk
                refine (htk).mono ?_
                rintro e V8 ⟨rfl, ho⟩
                have HOa8 := Lib.hid (HOa7.out.trans ho)
                have k1 := ho.cell hSS.1 id
                have k2 := ho.cell hSS.2 id
                clear ho
                clear htk
                refine hK.out _ _ ?_ (fun hSS => ?_)
                · exact ⟨by assumption, by assumption⟩
                clear hK
                try simp only [Act.put, List.getElem_toArray, List.getElem_cons_succ, List.getElem_cons_zero, List.setIfInBounds_toArray, List.set_cons_zero, List.set_cons_succ]
                refine wpHd_one (i := 41) rfl (by kernel_rfl) (fun K hK => ?_)
                go_simp
                have htk := rch_takes a.b a.level (HJ.out.j.keep HOa8.out).rc HJ.out.j.inv
                rw [HTT.out] at htk
                refine (htk).mono ?_
                rintro e V9 ⟨rfl, ho⟩
                have HOa9 := Lib.hid (HOa8.out.trans ho)
                have k1 := ho.cell hSS.1 id
                have k2 := ho.cell hSS.2 id
                clear ho
                clear htk
                refine hK.out _ _ ?_ (fun hSS => ?_)
                · exact ⟨by assumption, by assumption⟩
                clear hK
                refine wpHd_take (i := 42) (v := ?_) (by kernel_rfl) rfl (by kernel_rfl) (fun _ _ _ h => h) (.inl ⟨by rfl, ?_⟩) hSS ?_
                rotate_left
                · intro w hSw; (try dsimp only at hSw); go_simp; (try with_reducible rfl)
                try simp only [Act.put, List.getElem_toArray, List.getElem_cons_succ, List.getElem_cons_zero, List.setIfInBounds_toArray, List.set_cons_zero, List.set_cons_succ]
                refine wpHd_end (by kernel_rfl) ?_
                clear hSS k1 k2
                go_wp2
                go_roundw
                case rel => exact ⟨j + 1, i, mb, hv, o, r, s, D, Dr, HLT.out, by go_num, rfl, HJ.out.j.keep HOa9.out, HJ.out.a, HJ.out.age, HJ.out.fr, HOa9.out.box HJ.out.cf id, HJ.out.o.trans HOa9.out⟩
                case measure => simp [intOf]; have := HLT.out; omega
            · obtain rfl : j = L.length := by omega
              clear hlt hj
              go_wp2
              go_ret
              exact ⟨rfl, HI.out.o⟩
    · have HN := Lib.hid (cch_new_no hP tier W3 (HIN.out.keep HO3.out))
      have HR := Lib.hid fun (W : World) (ho : Only Non W3 W) => (rright_any A c.h.length m c W ((HIN.out.keep HO3.out).keep ho))
      rw [cfgB_no hP] at HR
      go_upto_region 6 with (first | (refine wpList_load_row rfl 25 _ rfl cfb rfl 25 (cfgCells c (.slice A c.h.length m)) (0, 0) _ HB3.out Tryz.underlying25 rfl (by kernel_rfl) ?_) | (go_at_call 19; refine HN.out.mono ?_; rintro e W4 ⟨rfl, ho4⟩; have HB4 := Lib.hid (ho4.box HB3.out id); have HO4 := Lib.hid (HO3.out.trans ho4); have HR4 := Lib.hid (HR.out W4 ho4); clear ho4))
      go_wp2_with (first | (refine wpList_load_row rfl 25 _ rfl cfb rfl 25 (cfgCells c (.slice A c.h.length m)) (0, 0) _ HB4.out Tryz.underlying25 rfl (by kernel_rfl) ?_) | (go_at_call 20; refine HR4.out.mono ?_; rintro e W5 ⟨rfl, ho5⟩))
      go_ret
      exact ⟨by simp, HO4.out.trans ho5⟩
end
end Go.Proofs.YtodephhlhdbeoaaGreat
