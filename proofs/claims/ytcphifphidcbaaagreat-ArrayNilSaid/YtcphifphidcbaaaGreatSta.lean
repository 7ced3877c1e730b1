/- The store: shapes, what fits; numbers are read into places. Printed by sta.py. -/
import Derived.Test.YtcphifphidcbaaaGreatStr
namespace Go.Proofs.YtcphifphidcbaaaGreat
open Go.RowKit Go.ChangeShapes Go.WideShapes
set_option linter.unusedVariables false
set_option linter.unusedSimpArgs false
def shC (sh : Nat → Int) : Array Value := #[.int .i64 (sh 0), .int .i64 (sh 1), .int .i64 (sh 2), .int .i64 (sh 3)]
structure ShP (sh : Nat → Int) : Prop where
  b0 : 1 ≤ sh 0
  b1 : sh 0 ≤ 32
  s0 : 1 ≤ sh 1
  s1 : sh 1 ≤ 16
  c0 : 1 ≤ sh 2
  c1 : sh 2 ≤ 4
  l0 : 1 ≤ sh 3
  l1 : sh 3 ≤ 4
/-- a write, but for its bytes: client, slot, boot, op, block -/
def wrC (wr : Nat → Int) (d : Value) : Array Value := #[.int .i64 (wr 0), .int .i64 (wr 1), .int .i64 (wr 2), .int .i64 (wr 3), .int .i64 (wr 4), d]
def fitB (sh wr : Nat → Int) : Bool := decide (0 ≤ wr 0 ∧ wr 0 < sh 2 ∧ 0 ≤ wr 1 ∧ wr 1 < sh 3 ∧ 1 ≤ wr 2 ∧ wr 2 ≤ 1099511627776 ∧ 1 ≤ wr 3 ∧ wr 3 ≤ 1099511627776)
theorem ShP.mul {sh : Nat → Int} (h : ShP sh) {c : Int} (h0 : 0 ≤ c) (h1 : c < sh 2) : 0 ≤ sh 3 * c ∧ sh 3 * c + sh 3 ≤ sh 2 * sh 3 ∧ sh 2 * sh 3 ≤ 16 := by
  have a1 := h.c0; have a2 := h.c1; have a3 := h.l0; have a4 := h.l1
  generalize sh 2 = x at *
  generalize sh 3 = y at *
  rcases (show x = 1 ∨ x = 2 ∨ x = 3 ∨ x = 4 by omega) with rfl | rfl | rfl | rfl <;> rcases (show c = 0 ∨ c = 1 ∨ c = 2 ∨ c = 3 by omega) with rfl | rfl | rfl | rfl <;> omega
section
set_option maxHeartbeats 4000000
set_option maxRecDepth 100000
theorem shp_right {sh : Nat → Int} (h : ShP sh) (w : World) : Calls Tryz.prog 89 #[.agg (shC sh)] w fun e w' => e = .returned (.bool true) ∧ Only Non w w' := by
  obtain ⟨h0, h1, h2, h3, h4, h5, h6, h7⟩ := h
  have HB := Lib.hid (Box.fresh w 101 (shC sh))
  have HO := Lib.hid ((Only.refl Non w).alloc (.cells (shC sh) 101))
  go_enter Tryz.func89, Tryz.ntmps89
  go_upto_region 1 with fail
  change Code.wp _ _ _ _ (w.alloc (.cells (shC sh) 101))
  generalize w.alloc (.cells (shC sh) 101) = W at *
  generalize w.heap.size = b at *
  have x0 : W.cell? ⟨b, 0, none⟩ = some (.int .i64 (sh 0)) := HB.out.cellAt rfl
  have x1 : W.cell? ⟨b, 1, none⟩ = some (.int .i64 (sh 1)) := HB.out.cellAt rfl
  have x2 : W.cell? ⟨b, 2, none⟩ = some (.int .i64 (sh 2)) := HB.out.cellAt rfl
  have x3 : W.cell? ⟨b, 3, none⟩ = some (.int .i64 (sh 3)) := HB.out.cellAt rfl
  go_wp2
  go_ret
  exact ⟨rfl, HO.out⟩
theorem shp_sectors {sh : Nat → Int} (h : ShP sh) (w : World) : Calls Tryz.prog 91 #[.agg (shC sh)] w fun e w' => e = .returned (.int .i64 (1 + sh 0 + sh 2 * sh 3)) ∧ Only Non w w' := by
  have hm := h.mul (c := 0) (Int.le_refl _) (by have := h.c0; omega)
  have hm2 : 0 ≤ sh 2 * sh 3 ∧ sh 2 * sh 3 ≤ 16 := by have h1 := h.l0; omega
  obtain ⟨h0, h1, h2, h3, h4, h5, h6, h7⟩ := h
  have w1 : IntKind.i64.wrap (1 + sh 0) = 1 + sh 0 := by rw [IntKind.wrap_i64]; omega
  have w2 : IntKind.i64.wrap (sh 2 * sh 3) = sh 2 * sh 3 := by rw [IntKind.wrap_i64]; omega
  have w3 : IntKind.i64.wrap (1 + sh 0 + sh 2 * sh 3) = 1 + sh 0 + sh 2 * sh 3 := by rw [IntKind.wrap_i64]; omega
  have HB := Lib.hid (Box.fresh w 101 (shC sh))
  have HO := Lib.hid ((Only.refl Non w).alloc (.cells (shC sh) 101))
  clear hm hm2
  go_enter Tryz.func91, Tryz.ntmps91
  go_upto_region 1 with fail
  change Code.wp _ _ _ _ (w.alloc (.cells (shC sh) 101))
  generalize w.alloc (.cells (shC sh) 101) = W at *
  generalize w.heap.size = b at *
  have x0 : W.cell? ⟨b, 0, none⟩ = some (.int .i64 (sh 0)) := HB.out.cellAt rfl
  have x2 : W.cell? ⟨b, 2, none⟩ = some (.int .i64 (sh 2)) := HB.out.cellAt rfl
  have x3 : W.cell? ⟨b, 3, none⟩ = some (.int .i64 (sh 3)) := HB.out.cellAt rfl
  go_wp2
  go_ret
  exact ⟨rfl, HO.out⟩
theorem shp_blockAt {sh : Nat → Int} {b : Int} (h0 : 0 ≤ b) (h1 : b ≤ 1000) (w : World) : Calls Tryz.prog 128 #[.agg (shC sh), .int .i64 b] w fun e w' => e = .returned (.int .i64 (1 + b)) ∧ Only Non w w' := by
  have HO := Lib.hid ((Only.refl Non w).alloc (.cells (shC sh) 101))
  go_enter Tryz.func128, Tryz.ntmps128
  go_upto_region 1 with fail
  change Code.wp _ _ _ _ (w.alloc (.cells (shC sh) 101))
  generalize w.alloc (.cells (shC sh) 101) = W at *
  go_wp2
  go_ret
  exact ⟨rfl, HO.out⟩
theorem shp_slotAt {sh : Nat → Int} (h : ShP sh) {c s : Int} (h0 : 0 ≤ c) (h1 : c < sh 2) (h2 : 0 ≤ s) (h3 : s < sh 3) (w : World) : Calls Tryz.prog 136 #[.agg (shC sh), .int .i64 c, .int .i64 s] w fun e w' => e = .returned (.int .i64 (1 + sh 0 + sh 3 * c + s)) ∧ Only Non w w' := by
  have hm := h.mul h0 h1
  have b0 := h.b0
  have b1 := h.b1
  have l1 := h.l1
  have w1 : IntKind.i64.wrap (1 + sh 0) = 1 + sh 0 := by rw [IntKind.wrap_i64]; omega
  have w2 : IntKind.i64.wrap (sh 3 * c) = sh 3 * c := by rw [IntKind.wrap_i64]; omega
  have w3 : IntKind.i64.wrap (1 + sh 0 + sh 3 * c) = 1 + sh 0 + sh 3 * c := by rw [IntKind.wrap_i64]; omega
  have w4 : IntKind.i64.wrap (1 + sh 0 + sh 3 * c + s) = 1 + sh 0 + sh 3 * c + s := by rw [IntKind.wrap_i64]; omega
  have HB := Lib.hid (Box.fresh w 101 (shC sh))
  have HO := Lib.hid ((Only.refl Non w).alloc (.cells (shC sh) 101))
  clear hm h
  go_enter Tryz.func136, Tryz.ntmps136
  go_upto_region 1 with fail
  change Code.wp _ _ _ _ (w.alloc (.cells (shC sh) 101))
  generalize w.alloc (.cells (shC sh) 101) = W at *
  generalize w.heap.size = b at *
  have x0 : W.cell? ⟨b, 0, none⟩ = some (.int .i64 (sh 0)) := HB.out.cellAt rfl
  have x3 : W.cell? ⟨b, 3, none⟩ = some (.int .i64 (sh 3)) := HB.out.cellAt rfl
  go_wp2
  go_ret
  exact ⟨rfl, HO.out⟩
theorem fits_any {sh wr : Nat → Int} (A : Option Addr) (n c : Nat) (w : World) : Calls Tryz.prog 132 #[.agg (shC sh), .agg (wrC wr (.slice A n c))] w fun e w' => e = .returned (.bool (fitB sh wr)) ∧ Only Non w w' := by
  have HB0 := Lib.hid (Box.fresh w 101 (shC sh))
  have al := (Only.refl Non w).alloc (.cells (shC sh) 101)
  have HB1 := Lib.hid (Box.fresh (w.alloc (.cells (shC sh) 101)) 165 (wrC wr (.slice A n c)))
  have al2 := (Only.refl Non (w.alloc (.cells (shC sh) 101))).alloc (.cells (wrC wr (.slice A n c)) 165)
  have HO := Lib.hid (al.trans al2)
  have HB2 := Lib.hid (al2.box HB0.out id)
  clear al al2
  go_enter Tryz.func132, Tryz.ntmps132
  go_upto_region 1 with fail
  change Code.wp _ _ _ _ ((w.alloc (.cells (shC sh) 101)).alloc (.cells (wrC wr (.slice A n c)) 165))
  clear HB0
  rw [show (w.alloc (.cells (shC sh) 101)).heap.size = w.heap.size + 1 by simp] at HB1
  generalize (w.alloc (.cells (shC sh) 101)).alloc (.cells (wrC wr (.slice A n c)) 165) = W at *
  generalize w.heap.size = b at *
  have x2 : W.cell? ⟨b, 2, none⟩ = some (.int .i64 (sh 2)) := HB2.out.cellAt rfl
  have x3 : W.cell? ⟨b, 3, none⟩ = some (.int .i64 (sh 3)) := HB2.out.cellAt rfl
  have y0 : W.cell? ⟨b + 1, 0, none⟩ = some (.int .i64 (wr 0)) := HB1.out.cellAt rfl
  have y1 : W.cell? ⟨b + 1, 1, none⟩ = some (.int .i64 (wr 1)) := HB1.out.cellAt rfl
  have y2 : W.cell? ⟨b + 1, 2, none⟩ = some (.int .i64 (wr 2)) := HB1.out.cellAt rfl
  have y3 : W.cell? ⟨b + 1, 3, none⟩ = some (.int .i64 (wr 3)) := HB1.out.cellAt rfl
  clear HB1 HB2
  by_cases h0 : 0 ≤ wr 0
  · by_cases h1 : wr 0 < sh 2
    · by_cases h2 : 0 ≤ wr 1
      · by_cases h3 : wr 1 < sh 3
        · by_cases h4 : 1 ≤ wr 2
          · by_cases h5 : wr 2 ≤ 1099511627776
            · by_cases h6 : 1 ≤ wr 3
              · by_cases h7 : wr 3 ≤ 1099511627776
                · have hF := Lib.hid (show fitB sh wr = true from by unfold fitB; exact decide_eq_true ⟨h0, h1, h2, h3, h4, h5, h6, h7⟩)
                  generalize hw0 : wr 0 = c0 at *
                  generalize wr 1 = c1 at *
                  generalize wr 2 = c2 at *
                  generalize wr 3 = c3 at *
                  generalize wr 4 = c4 at *
                  generalize sh 0 = s0 at *
                  generalize sh 1 = s1 at *
                  generalize sh 2 = s2 at *
                  generalize sh 3 = s3 at *
                  clear hw0
                  go_wp2
                  go_ret
                  exact ⟨by rw [hF.out]; rfl, HO.out⟩
                · have hF := Lib.hid (show fitB sh wr = false from by unfold fitB; exact decide_eq_false (by omega))
                  generalize hw0 : wr 0 = c0 at *
                  generalize wr 1 = c1 at *
                  generalize wr 2 = c2 at *
                  generalize wr 3 = c3 at *
                  generalize wr 4 = c4 at *
                  generalize sh 0 = s0 at *
                  generalize sh 1 = s1 at *
                  generalize sh 2 = s2 at *
                  generalize sh 3 = s3 at *
                  clear hw0
                  go_wp2
                  go_ret
                  exact ⟨by rw [hF.out]; rfl, HO.out⟩
              · have hF := Lib.hid (show fitB sh wr = false from by unfold fitB; exact decide_eq_false (by omega))
                generalize hw0 : wr 0 = c0 at *
                generalize wr 1 = c1 at *
                generalize wr 2 = c2 at *
                generalize wr 3 = c3 at *
                generalize wr 4 = c4 at *
                generalize sh 0 = s0 at *
                generalize sh 1 = s1 at *
                generalize sh 2 = s2 at *
                generalize sh 3 = s3 at *
                clear hw0
                go_wp2
                go_ret
                exact ⟨by rw [hF.out]; rfl, HO.out⟩
            · have hF := Lib.hid (show fitB sh wr = false from by unfold fitB; exact decide_eq_false (by omega))
              generalize hw0 : wr 0 = c0 at *
              generalize wr 1 = c1 at *
              generalize wr 2 = c2 at *
              generalize wr 3 = c3 at *
              generalize wr 4 = c4 at *
              generalize sh 0 = s0 at *
              generalize sh 1 = s1 at *
              generalize sh 2 = s2 at *
              generalize sh 3 = s3 at *
              clear hw0
              go_wp2
              go_ret
              exact ⟨by rw [hF.out]; rfl, HO.out⟩
          · have hF := Lib.hid (show fitB sh wr = false from by unfold fitB; exact decide_eq_false (by omega))
            generalize hw0 : wr 0 = c0 at *
            generalize wr 1 = c1 at *
            generalize wr 2 = c2 at *
            generalize wr 3 = c3 at *
            generalize wr 4 = c4 at *
            generalize sh 0 = s0 at *
            generalize sh 1 = s1 at *
            generalize sh 2 = s2 at *
            generalize sh 3 = s3 at *
            clear hw0
            go_wp2
            go_ret
            exact ⟨by rw [hF.out]; rfl, HO.out⟩
        · have hF := Lib.hid (show fitB sh wr = false from by unfold fitB; exact decide_eq_false (by omega))
          generalize hw0 : wr 0 = c0 at *
          generalize wr 1 = c1 at *
          generalize wr 2 = c2 at *
          generalize wr 3 = c3 at *
          generalize wr 4 = c4 at *
          generalize sh 0 = s0 at *
          generalize sh 1 = s1 at *
          generalize sh 2 = s2 at *
          generalize sh 3 = s3 at *
          clear hw0
          go_wp2
          go_ret
          exact ⟨by rw [hF.out]; rfl, HO.out⟩
      · have hF := Lib.hid (show fitB sh wr = false from by unfold fitB; exact decide_eq_false (by omega))
        generalize hw0 : wr 0 = c0 at *
        generalize wr 1 = c1 at *
        generalize wr 2 = c2 at *
        generalize wr 3 = c3 at *
        generalize wr 4 = c4 at *
        generalize sh 0 = s0 at *
        generalize sh 1 = s1 at *
        generalize sh 2 = s2 at *
        generalize sh 3 = s3 at *
        clear hw0
        go_wp2
        go_ret
        exact ⟨by rw [hF.out]; rfl, HO.out⟩
    · have hF := Lib.hid (show fitB sh wr = false from by unfold fitB; exact decide_eq_false (by omega))
      generalize hw0 : wr 0 = c0 at *
      generalize wr 1 = c1 at *
      generalize wr 2 = c2 at *
      generalize wr 3 = c3 at *
      generalize wr 4 = c4 at *
      generalize sh 0 = s0 at *
      generalize sh 1 = s1 at *
      generalize sh 2 = s2 at *
      generalize sh 3 = s3 at *
      clear hw0
      go_wp2
      go_ret
      exact ⟨by rw [hF.out]; rfl, HO.out⟩
  · have hF := Lib.hid (show fitB sh wr = false from by unfold fitB; exact decide_eq_false (by omega))
    generalize hw0 : wr 0 = c0 at *
    generalize wr 1 = c1 at *
    generalize wr 2 = c2 at *
    generalize wr 3 = c3 at *
    generalize wr 4 = c4 at *
    generalize sh 0 = s0 at *
    generalize sh 1 = s1 at *
    generalize sh 2 = s2 at *
    generalize sh 3 = s3 at *
    clear hw0
    go_wp2
    go_ret
    exact ⟨by rw [hF.out]; rfl, HO.out⟩
def AlRel (n : Nat) (I : Nat → World → Prop) (i : Value) (wr : World) : Prop := ∃ k : Nat, k ≤ n ∧ i = .int .i64 k ∧ I k wr
theorem sall_any (r n cb : Nat) (B : Option Addr) (pg po : Nat → Nat) (I : Nat → World → Prop) (w : World) (hn : n ≤ 6) (h0 : I 0 w)
    (hI : ∀ k wr, k < n → I k wr → (∃ g o, B = some ⟨g, o, none⟩ ∧ wr.cell? ⟨g, o + k, none⟩ = some (.pointer (some ⟨pg k, po k, none⟩))) ∧
      Calls Tryz.prog 129 #[.pointer (some ⟨r, 0, none⟩)] wr fun e w' => ∃ x : Int, e = .returned (.int .i64 x) ∧ (∃ u, w'.cell? ⟨pg k, po k, none⟩ = some u) ∧ w'.frozen? ⟨pg k, po k, none⟩ = false ∧ I (k + 1) (w'.setCell ⟨pg k, po k, none⟩ (.int .i64 x))) :
    Calls Tryz.prog 131 #[.func (.func 129) #[.pointer (some ⟨r, 0, none⟩)] #[], .slice B n cb] w fun e w' => e = .returned (.tuple #[]) ∧ I n w' := by
  have HI := Lib.hid hI
  have HS := Lib.hid (show AlRel n I (.int .i64 0) w from ⟨0, Nat.zero_le _, rfl, h0⟩)
  clear hI h0
  go_enter Tryz.func131, Tryz.ntmps131
  go_wp2_with fail
  go_loopw [8] (fun i wr => AlRel n I i wr) (fun i _ => n - (intOf i).toNat)
  case atStart => exact HS.out
  case round =>
    clear HS
    obtain ⟨k, hk, rfl, hi⟩ := hrel
    by_cases hlt : k < n
    · have hlti : (k : Int) < n := by omega
      obtain ⟨⟨g, o, hB, hc⟩, hcall⟩ := HI.out k wr hlt hi
      subst hB
      have HC := Lib.hid hcall
      clear hcall hi
      have Hlt := Lib.hid hlt
      generalize pg k = pgk at *
      generalize po k = pok at *
      go_wp2_with fail
      refine HC.out.mono ?_
      rintro e w1 ⟨x, rfl, ⟨u, hu⟩, hf, hn1⟩
      have HR := Lib.hid (show AlRel n I (.int .i64 ((k : Int) + 1)) (w1.setCell ⟨pgk, pok, none⟩ (.int .i64 x)) from ⟨k + 1, Hlt.out, by simp, hn1⟩)
      clear hn1
      go_wp2_with fail
      refine ⟨?_, ?_⟩
      · (repeat first | exact ⟨HR.out, rfl⟩ | exact HR.out | apply Exists.intro)
      · simp [intOf]; omega
    · obtain rfl : k = n := by omega
      have HF := Lib.hid hi
      clear hi hlt hk
      go_wp2_with fail
      go_end0
      exact ⟨rfl, HF.out⟩
end
end Go.Proofs.YtcphifphidcbaaaGreat
