/- gradineref03.between, in, Hints. Printed by cfgc.py. -/
import Derived.Test.YtaofjnpmnaohcaaCfgS
namespace Go.Proofs.Ytaofjnpmnaohcaa
open Go.RowKit
set_option linter.unusedVariables false
set_option linter.unusedSimpArgs false
section
set_option maxHeartbeats 2000000
set_option maxRecDepth 100000
theorem between_yes {n a b : Int} (h : a ≤ n ∧ n ≤ b) (w : World) : Calls Try.prog 44 #[.int .i64 n, .int .i64 a, .int .i64 b] w fun e w' => e = .returned (.bool true) ∧ w = w' := by
  obtain ⟨h1, h2⟩ := h
  go_enter Try.func44, Try.ntmps44
  go_wp2_with fail
  go_ret
  exact ⟨rfl, rfl⟩
theorem between_no {n a b : Int} (h : ¬ (a ≤ n ∧ n ≤ b)) (w : World) : Calls Try.prog 44 #[.int .i64 n, .int .i64 a, .int .i64 b] w fun e w' => e = .returned (.bool false) ∧ w = w' := by
  by_cases h1 : a ≤ n
  · have h2 : ¬ n ≤ b := by omega
    clear h
    go_enter Try.func44, Try.ntmps44
    go_wp2_with fail
    go_ret
    exact ⟨rfl, rfl⟩
  · clear h
    go_enter Try.func44, Try.ntmps44
    go_wp2_with fail
    go_ret
    exact ⟨rfl, rfl⟩
def hintV (h : HintA) : Value := .agg #[.int .i64 h.fr, .int .i64 h.size, .int .i64 h.often, .bool h.loop]
theorem in_yes {hd : HintA} {b : Nat} (h : inH hd b) (h32 : 0 ≤ hd.fr ∧ hd.fr ≤ 32) (hb : b ≤ 32) (w : World) : Calls Try.prog 48 #[.agg #[.int .i64 hd.fr, .int .i64 hd.size, .int .i64 hd.often, .bool hd.loop], .int .i64 b] w fun e w' => e = .returned (.bool true) ∧ Only Non w w' := by
  obtain ⟨fr, size, often, loop⟩ := hd
  obtain ⟨h1, h2⟩ := h
  dsimp only at h1 h2 h32 ⊢
  have e1 : IntKind.i64.wrap ((b : Int) - fr) = b - fr := IntWalk.i64_in _ (by omega)
  have h3 : (b : Int) - fr < size := by omega
  go_enter Try.func48, Try.ntmps48
  go_wp2_with fail
  go_ret
  exact ⟨rfl, (Only.refl _ _).alloc _⟩
theorem in_no {hd : HintA} {b : Nat} (h : ¬ inH hd b) (h32 : 0 ≤ hd.fr ∧ hd.fr ≤ 32) (hb : b ≤ 32) (w : World) : Calls Try.prog 48 #[.agg #[.int .i64 hd.fr, .int .i64 hd.size, .int .i64 hd.often, .bool hd.loop], .int .i64 b] w fun e w' => e = .returned (.bool false) ∧ Only Non w w' := by
  obtain ⟨fr, size, often, loop⟩ := hd
  unfold inH at h
  dsimp only at h h32 ⊢
  by_cases h1 : fr ≤ (b : Int)
  · have e1 : IntKind.i64.wrap ((b : Int) - fr) = b - fr := IntWalk.i64_in _ (by omega)
    have h3 : ¬ (b : Int) - fr < size := by omega
    clear h
    go_enter Try.func48, Try.ntmps48
    go_wp2_with fail
    go_ret
    exact ⟨rfl, (Only.refl _ _).alloc _⟩
  · clear h
    go_enter Try.func48, Try.ntmps48
    go_wp2_with fail
    go_ret
    exact ⟨rfl, (Only.refl _ _).alloc _⟩
def Rh1 (blocks : Int) (l : List HintA) (w : World) (i : Value) (wr : World) : Prop :=
  ∃ k : Nat, k ≤ l.length ∧ i = .int .i64 k ∧ (∀ j, j < k → okH blocks (l.getD j default)) ∧ (∀ i j, i < j → j < k → apartH (l.getD i default) (l.getD j default)) ∧ Only Non w wr
def Rh2 (l : List HintA) (k F Z hb : Nat) (w : World) (often : Int) (loop : Bool) (i : Value) (wr : World) : Prop :=
  ∃ q : Nat, q ≤ 32 ∧ i = .int .i64 q ∧ (∀ b j, b < q → j < k → ¬ (inH ⟨F, Z, often, loop⟩ b ∧ inH (l.getD j default) b)) ∧ Box wr hb 66 #[.int .i64 F, .int .i64 Z, .int .i64 often, .bool loop] ∧ Only Non w wr
def Rh3 (l : List HintA) (k q F Z hb : Nat) (w : World) (often : Int) (loop : Bool) (i : Value) (wr : World) : Prop :=
  ∃ r : Nat, r ≤ k ∧ i = .int .i64 r ∧ (∀ j, j < r → ¬ (inH ⟨F, Z, often, loop⟩ q ∧ inH (l.getD j default) q)) ∧ Box wr hb 66 #[.int .i64 F, .int .i64 Z, .int .i64 often, .bool loop] ∧ Only Non w wr
theorem Rh1.step {blocks : Int} {l : List HintA} {k F Z : Nat} {w wr : World} {often : Int} {loop : Bool} (hx : l.getD k default = ⟨F, Z, often, loop⟩)
    (hm : ∀ b j, b < 32 → j < k → ¬ (inH ⟨F, Z, often, loop⟩ b ∧ inH (l.getD j default) b)) (hok : ∀ j, j < k → okH blocks (l.getD j default)) (hap : ∀ i j, i < j → j < k → apartH (l.getD i default) (l.getD j default))
    (hok1 : okH blocks ⟨F, Z, often, loop⟩) (ho : Only Non w wr) (hlt : k < l.length) : Rh1 blocks l w (.int .i64 ((k : Int) + 1)) wr := by
  refine ⟨k + 1, hlt, by simp, fun j hj => ?_, fun i j hij hj => ?_, ho⟩
  · rcases Nat.lt_or_ge j k with hk | hk
    · exact hok j hk
    · obtain rfl : j = k := by omega
      rw [hx]; exact hok1
  · rcases Nat.lt_or_ge j k with hk | hk
    · exact hap i j hij hk
    · obtain rfl : j = k := by omega
      have h1 := hok i hij
      rw [hx]
      unfold okH at h1 hok1
      unfold apartH
      dsimp only at hok1 ⊢
      generalize hg : l.getD i default = g at *
      by_cases hgf : g.fr ≤ F
      · have := hm F i (by omega) hij
        rw [hg] at this
        unfold inH at this
        dsimp only at this
        omega
      · by_cases hc : g.fr < F + Z
        · have := hm g.fr.toNat i (by omega) hij
          rw [hg] at this
          unfold inH at this
          dsimp only at this
          omega
        · omega
theorem rhints_any (A : Option Addr) (n c : Nat) (l : List HintA) (blocks : Int) (w : World) (h : HintsAt w A n c l) (hb1 : 1 ≤ blocks) (hb2 : blocks ≤ 32) :
    Calls Try.prog 45 #[.slice A n c, .int .i64 blocks] w fun e w' => e = .returned (.bool (hintsB blocks l)) ∧ Only Non w w' := by
  obtain rfl := h.len
  have hcap := h.cap
  have hmax := h.max
  have H := Lib.hid h
  unfold maxLen at hmax
  clear h
  by_cases h8 : l.length ≤ 8
  rotate_left
  · have Hr := Lib.hid (hintsB_no (blocks := blocks) (l := l) fun hp => h8 hp.2.2)
    have h8b : (8 : Int) < (l.length : Int) := by omega
    go_enter Try.func45, Try.ntmps45
    go_wp2_with fail
    go_ret
    exact ⟨by rw [Hr.out]; rfl, Only.refl _ _⟩
  have h8b : ¬ (8 : Int) < (l.length : Int) := by omega
  have H8 := Lib.hid h8
  go_enter Try.func45, Try.ntmps45
  go_wp2_with fail
  clear h8 h8b
  go_loopw [5] (fun i wr => Rh1 blocks l w i wr) (fun i _ => l.length - (intOf i).toNat)
  case atStart => exact ⟨0, Nat.zero_le _, rfl, fun j hj => absurd hj (by omega), fun i j _ hj => absurd hj (by omega), Only.refl _ _⟩
  case round =>
    obtain ⟨k, hk, rfl, hok, hap, ho⟩ := hrel
    have Hok := Lib.hid hok
    have Hap := Lib.hid hap
    have Ho := Lib.hid ho
    by_cases hlt : k < l.length
    · obtain ⟨g, o, rfl, hg, x0, x1, x2, x3⟩ := (H.out.keep ho).at_ k hlt
      have Hno := Lib.hid (fun (h : ¬ okH blocks (l.getD k default)) => hintsB_no (blocks := blocks) (l := l) fun hp => h (hp.1 k hlt))
      have hltb : (k : Int) < l.length := by omega
      have Hlt := Lib.hid hlt
      clear hok hap ho
      generalize hx : l.getD k default = hd at *
      obtain ⟨fr, size, often, loop⟩ := hd
      have Hx := Lib.hid hx
      clear hx
      dsimp only at x0 x1 x2 x3
      by_cases c0 : fr < 0
      · have Hr := Lib.hid (Hno.out (fun h => by unfold okH at h; dsimp only at h; omega))
        go_wp2_with fail
        go_ret
        exact ⟨by rw [Hr.out]; rfl, Ho.out.alloc _⟩
      by_cases c1 : size < 1
      · have Hr := Lib.hid (Hno.out (fun h => by unfold okH at h; dsimp only at h; omega))
        go_wp2_with fail
        go_ret
        exact ⟨by rw [Hr.out]; rfl, Ho.out.alloc _⟩
      by_cases c2 : 32 < fr
      · have Hr := Lib.hid (Hno.out (fun h => by unfold okH at h; dsimp only at h; omega))
        go_wp2_with fail
        go_ret
        exact ⟨by rw [Hr.out]; rfl, Ho.out.alloc _⟩
      by_cases c3 : 32 < size
      · have Hr := Lib.hid (Hno.out (fun h => by unfold okH at h; dsimp only at h; omega))
        go_wp2_with fail
        go_ret
        exact ⟨by rw [Hr.out]; rfl, Ho.out.alloc _⟩
      have e1 : IntKind.i64.wrap (fr + size) = fr + size := IntWalk.i64_in _ (by omega)
      by_cases c4 : blocks < fr + size
      · have Hr := Lib.hid (Hno.out (fun h => by unfold okH at h; dsimp only at h; omega))
        go_wp2_with fail
        go_ret
        exact ⟨by rw [Hr.out]; rfl, Ho.out.alloc _⟩
      have c5 : ¬ 32 < fr + size := by omega
      by_cases c6 : often < 0
      · have Hr := Lib.hid (Hno.out (fun h => by unfold okH at h; dsimp only at h; omega))
        go_wp2_with fail
        go_ret
        exact ⟨by rw [Hr.out]; rfl, Ho.out.alloc _⟩
      by_cases c7 : 2147483647 < often
      · have Hr := Lib.hid (Hno.out (fun h => by unfold okH at h; dsimp only at h; omega))
        go_wp2_with fail
        go_ret
        exact ⟨by rw [Hr.out]; rfl, Ho.out.alloc _⟩
      have hfr : fr = ((fr.toNat : Nat) : Int) := by omega
      have hsz : size = ((size.toNat : Nat) : Int) := by omega
      generalize fr.toNat = F at *
      generalize size.toNat = Z at *
      subst hfr hsz
      have Hok1 := Lib.hid (show okH blocks ⟨(F : Int), (Z : Int), often, loop⟩ from by unfold okH; dsimp only; omega)
      have HbH := Lib.hid (Box.fresh wr 66 #[.int .i64 F, .int .i64 Z, .int .i64 often, .bool loop])
      have HoH := Lib.hid (Ho.out.alloc (.cells #[.int .i64 F, .int .i64 Z, .int .i64 often, .bool loop] 66))
      have HhB := Lib.hid (show w.heap.size ≤ wr.heap.size from Ho.out.size)
      have F32n := Lib.hid (show 0 ≤ (F : Int) ∧ (F : Int) ≤ 32 from by omega)
      go_wp2_with fail
      clear c0 c1 c2 c3 c4 c5 c6 c7 e1
      generalize wr.alloc (.cells #[.int .i64 F, .int .i64 Z, .int .i64 often, .bool loop] 66) = X at *
      generalize hhb : wr.heap.size = hb at *
      have Hhb := Lib.hid hhb
      clear hhb x0 x1 x2 x3
      go_loopw [7] (fun i wr => Rh2 l k F Z hb w often loop i wr) (fun i _ => 32 - (intOf i).toNat)
      case atStart => exact ⟨0, Nat.zero_le _, rfl, fun b j h => absurd h (Nat.not_lt_zero _), HbH.out, HoH.out⟩
      case round =>
        obtain ⟨q, hq, rfl, hm2, hbx, ho2⟩ := hrel
        have Hm2 := Lib.hid hm2
        have Hbx2 := Lib.hid hbx
        have Ho2 := Lib.hid ho2
        clear hm2 hbx ho2
        by_cases hqz : q < 32
        · have hqi : (q : Int) < 32 := by omega
          go_wp2_with fail
          go_loopw [8] (fun i wr => Rh3 l k q F Z hb w often loop i wr) (fun i _ => k - (intOf i).toNat)
          case atStart => exact ⟨0, Nat.zero_le _, rfl, fun j h => absurd h (Nat.not_lt_zero _), Hbx2.out, Ho2.out⟩
          case round =>
            obtain ⟨r, hr, rfl, hm3, hbx, ho3⟩ := hrel
            have Hm3 := Lib.hid hm3
            have Hbx := Lib.hid hbx
            have Ho3 := Lib.hid ho3
            by_cases hrk : r < k
            · have y0 : wr.cell? ⟨hb, 0, none⟩ = some (.int .i64 F) := hbx.cellAt rfl
              have y1 : wr.cell? ⟨hb, 1, none⟩ = some (.int .i64 Z) := hbx.cellAt rfl
              have y2 : wr.cell? ⟨hb, 2, none⟩ = some (.int .i64 often) := hbx.cellAt rfl
              have y3 : wr.cell? ⟨hb, 3, none⟩ = some (.bool loop) := hbx.cellAt rfl
              have hrki : (r : Int) < k := by omega
              have hrl : (r : Int) < l.length := by omega
              clear hm3 hbx ho3
              by_cases hin : inH ⟨(F : Int), (Z : Int), often, loop⟩ q
              · have HI1 := Lib.hid (fun w => in_yes (hd := ⟨(F : Int), (Z : Int), often, loop⟩) hin F32n.out (by omega : q ≤ 32) w)
                have Hin := Lib.hid hin
                clear hin
                go_wp2_with fail
                refine (HI1.out _).mono ?_
                rintro e w5 ⟨rfl, ho5⟩
                have Ho5 := Lib.hid (Ho3.out.transN ho5)
                have Hbx5 := Lib.hid (ho5.box Hbx.out id)
                clear ho5
                obtain ⟨g2, o2, hA2, hg2, z0, z1, z2, z3⟩ := (H.out.keep Ho5.out).at_ r (by omega)
                injection hA2 with hA2
                injection hA2 with hg hoo hss
                subst hg hoo
                have HokR := Lib.hid (Hok.out r hrk)
                generalize hxr : l.getD r default = hr2 at *
                obtain ⟨fr2, size2, often2, loop2⟩ := hr2
                have Hxr := Lib.hid hxr
                clear hxr
                dsimp only at z0 z1 z2 z3
                have f2 : 0 ≤ fr2 ∧ fr2 ≤ 32 := by have := HokR.out; unfold okH at this; dsimp only at this; omega
                have F2n := Lib.hid f2
                clear f2
                by_cases hin2 : inH ⟨fr2, size2, often2, loop2⟩ q
                · have HI2 := Lib.hid (fun w => in_yes (hd := ⟨fr2, size2, often2, loop2⟩) hin2 F2n.out (by omega : q ≤ 32) w)
                  have Hr := Lib.hid (hintsB_no (blocks := blocks) (l := l) fun hp => by
                    have := hp.2.1 r k hrk Hlt.out
                    rw [Hx.out, Hxr.out] at this
                    have h1 := Hin.out
                    have h2 := hin2
                    unfold apartH at this
                    unfold inH at h1 h2
                    dsimp only at this h1 h2
                    omega)
                  clear hin2
                  go_wp2_with fail
                  refine (HI2.out _).mono ?_
                  rintro e w6 ⟨rfl, ho6⟩
                  have Ho6 := Lib.hid (Ho5.out.transN ho6)
                  clear ho6
                  go_wp2_with fail
                  go_ret
                  exact ⟨by rw [Hr.out]; rfl, Ho6.out⟩
                · have HI2 := Lib.hid (fun w => in_no (hd := ⟨fr2, size2, often2, loop2⟩) hin2 F2n.out (by omega : q ≤ 32) w)
                  have HN := Lib.hid hin2
                  clear hin2
                  go_wp2_with fail
                  refine (HI2.out _).mono ?_
                  rintro e w6 ⟨rfl, ho6⟩
                  have Ho6 := Lib.hid (Ho5.out.transN ho6)
                  have Hbx6 := Lib.hid (ho6.box Hbx5.out id)
                  clear ho6
                  go_wp2_with fail
                  have HR := Lib.hid (show Rh3 l k q F Z hb w often loop (.int .i64 ((r : Int) + 1)) w6 from ⟨r + 1, hrk, by simp, fun j hj => by
                    rcases Nat.lt_or_ge j r with h | h
                    · exact Hm3.out j h
                    · obtain rfl : j = r := by omega
                      rw [Hxr.out]; exact fun h => HN.out h.2, Hbx6.out, Ho6.out⟩)
                  refine ⟨?_, ?_⟩
                  · (repeat first | exact ⟨HR.out, rfl⟩ | exact HR.out | apply Exists.intro)
                  · simp [intOf]; omega
              · have HI1 := Lib.hid (fun w => in_no (hd := ⟨(F : Int), (Z : Int), often, loop⟩) hin F32n.out (by omega : q ≤ 32) w)
                have HN := Lib.hid hin
                clear hin
                go_wp2_with fail
                refine (HI1.out _).mono ?_
                rintro e w6 ⟨rfl, ho6⟩
                have Ho6 := Lib.hid (Ho3.out.transN ho6)
                have Hbx6 := Lib.hid (ho6.box Hbx.out id)
                clear ho6
                go_wp2_with fail
                have HR := Lib.hid (show Rh3 l k q F Z hb w often loop (.int .i64 ((r : Int) + 1)) w6 from ⟨r + 1, hrk, by simp, fun j hj h => HN.out h.1, Hbx6.out, Ho6.out⟩)
                refine ⟨?_, ?_⟩
                · (repeat first | exact ⟨HR.out, rfl⟩ | exact HR.out | apply Exists.intro)
                · simp [intOf]; omega
            · obtain rfl : r = k := by omega
              clear hm3 hbx ho3
              go_wp2_with fail
              have HR := Lib.hid (show Rh2 l r F Z hb w often loop (.int .i64 ((q : Int) + 1)) wr from ⟨q + 1, hqz, by simp, fun b j hb hj => by
                rcases Nat.lt_or_ge b q with h | h
                · exact Hm2.out b j h hj
                · obtain rfl : b = q := by omega
                  exact Hm3.out j hj, Hbx.out, Ho3.out⟩)
              refine ⟨?_, ?_⟩
              · (repeat first | exact ⟨HR.out, rfl⟩ | exact HR.out | apply Exists.intro)
              · simp [intOf]; omega
        · obtain rfl : q = 32 := by omega
          go_wp2_with fail
          have HR := Lib.hid (show Rh1 blocks l w (.int .i64 ((k : Int) + 1)) wr from Rh1.step Hx.out Hm2.out Hok.out Hap.out Hok1.out Ho2.out Hlt.out)
          refine ⟨?_, ?_⟩
          · (repeat first | exact ⟨HR.out, rfl⟩ | exact HR.out | apply Exists.intro)
          · simp [intOf]; omega
    · have hkn : k = l.length := by omega
      have Hr := Lib.hid (hintsB_yes (blocks := blocks) (l := l) ⟨fun i hi => Hok.out i (by omega), fun i j hij hj => Hap.out i j hij (by omega), H8.out⟩)
      clear hok hap ho
      clear hkn
      go_wp2_with fail
      go_ret
      exact ⟨by rw [Hr.out]; rfl, Ho.out⟩
end
end Go.Proofs.Ytaofjnpmnaohcaa
