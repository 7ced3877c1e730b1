/- A configuration's hints: what they are in memory, when they are right; conf.within, conf.Hints. -/
import Derived.Test.YtcphifphidcbaaaGreatByt
namespace Go.Proofs.YtcphifphidcbaaaGreat
open Go.RowKit
set_option linter.unusedVariables false
set_option linter.unusedSimpArgs false
structure HintA where
  fr : Int
  size : Int
  often : Int
  loop : Bool
  deriving DecidableEq
instance : Inhabited HintA := ⟨⟨0, 0, 0, false⟩⟩
def okH (blocks : Int) (h : HintA) : Prop := 0 ≤ h.fr ∧ 1 ≤ h.size ∧ h.fr ≤ blocks ∧ h.size ≤ blocks - h.fr ∧ h.fr + h.size ≤ 32 ∧ 0 ≤ h.often ∧ h.often ≤ 2147483647
def apartH (g h : HintA) : Prop := g.fr + g.size ≤ h.fr ∨ h.fr + h.size ≤ g.fr
def inH (h : HintA) (b : Nat) : Prop := h.fr ≤ b ∧ (b : Int) < h.fr + h.size
def hintsP (blocks : Int) (l : List HintA) : Prop :=
  (∀ i, i < l.length → okH blocks (l.getD i default)) ∧ (∀ i j, i < j → j < l.length → apartH (l.getD i default) (l.getD j default)) ∧ l.length ≤ 8
noncomputable def hintsB (blocks : Int) (l : List HintA) : Bool := @decide (hintsP blocks l) (Classical.propDecidable _)
theorem hintsB_no {blocks : Int} {l : List HintA} (h : ¬ hintsP blocks l) : hintsB blocks l = false := by unfold hintsB; exact @decide_eq_false _ (Classical.propDecidable _) h
theorem hintsB_yes {blocks : Int} {l : List HintA} (h : hintsP blocks l) : hintsB blocks l = true := by unfold hintsB; exact @decide_eq_true _ (Classical.propDecidable _) h
structure HintsAt (w : World) (A : Option Addr) (n c : Nat) (l : List HintA) : Prop where
  len : n = l.length
  cap : n ≤ c
  max : c ≤ maxLen
  at_ : ∀ i, i < l.length → ∃ g o, A = some ⟨g, o, none⟩ ∧ g < w.heap.size ∧ w.cell? ⟨g, o + i * 4, none⟩ = some (.int .i64 (l.getD i default).fr) ∧ w.cell? ⟨g, o + i * 4 + 1, none⟩ = some (.int .i64 (l.getD i default).size) ∧
    w.cell? ⟨g, o + i * 4 + 2, none⟩ = some (.int .i64 (l.getD i default).often) ∧ w.cell? ⟨g, o + i * 4 + 3, none⟩ = some (.bool (l.getD i default).loop)
theorem HintsAt.only {S : Nat → Prop} {w w' : World} {A : Option Addr} {n c : Nat} {l : List HintA} (h : HintsAt w A n c l) (ho : Only S w w') (hS : ∀ k, k < w.heap.size → ¬ S k) : HintsAt w' A n c l :=
  ⟨h.len, h.cap, h.max, fun i hi => by
    obtain ⟨g, o, e, hg, h0, h1, h2, h3⟩ := h.at_ i hi
    have hn := hS g hg
    exact ⟨g, o, e, Nat.lt_of_lt_of_le hg ho.size, ho.cell h0 hn, ho.cell h1 hn, ho.cell h2 hn, ho.cell h3 hn⟩⟩
theorem HintsAt.keep {w w' : World} {A : Option Addr} {n c : Nat} {l : List HintA} (h : HintsAt w A n c l) (ho : Only Non w w') : HintsAt w' A n c l := h.only ho fun _ _ => id
section
set_option maxHeartbeats 2000000
set_option maxRecDepth 100000
theorem within_any (n a b : Int) (w : World) : Calls Tryz.prog 125 #[.int .i64 n, .int .i64 a, .int .i64 b] w fun e w' => e = .returned (.bool (decide (a ≤ n) && decide (n ≤ b))) ∧ w = w' := by
  by_cases h1 : a ≤ n
  · by_cases h2 : n ≤ b
    · go_enter Tryz.func125, Tryz.ntmps125
      go_wp2_with fail
      go_ret
      exact ⟨by simp [h1, h2], rfl⟩
    · go_enter Tryz.func125, Tryz.ntmps125
      go_wp2_with fail
      go_ret
      exact ⟨by simp [h1, h2], rfl⟩
  · go_enter Tryz.func125, Tryz.ntmps125
    go_wp2_with fail
    go_ret
    exact ⟨by rw [decide_eq_false (show ¬ a ≤ n by omega)]; rfl, rfl⟩
/-- the marks behind k hints -/
structure MetAt (wr : World) (mb : Nat) (f : Nat → Prop) : Prop where
  ex : ∃ cs : Array Value, Box wr mb 110 cs ∧ cs.size = 32 ∧ ∀ b, b < 32 → ∃ x : Bool, cs[b]? = some (.bool x) ∧ (x = true ↔ f b)
def Hi1 (blocks : Int) (l : List HintA) (w : World) (i : Value) (wr : World) : Prop :=
  ∃ k : Nat, k ≤ l.length ∧ i = .int .i64 k ∧ MetAt wr w.heap.size (fun b => ∃ j, j < k ∧ inH (l.getD j default) b) ∧ (∀ j, j < k → okH blocks (l.getD j default)) ∧ (∀ i j, i < j → j < k → apartH (l.getD i default) (l.getD j default)) ∧ Only Non w wr
def Hi2 (l : List HintA) (k F Z hb mb : Nat) (w : World) (often : Int) (loop : Bool) (i : Value) (wr : World) : Prop :=
  ∃ q : Nat, q ≤ Z ∧ i = .int .i64 q ∧ MetAt wr mb (fun b => (∃ j, j < k ∧ inH (l.getD j default) b) ∨ (F ≤ b ∧ b < F + q)) ∧ (∀ b, F ≤ b → b < F + q → ¬ ∃ j, j < k ∧ inH (l.getD j default) b) ∧
    Box wr hb 88 #[.int .i64 F, .int .i64 Z, .int .i64 often, .bool loop] ∧ Only Non w wr
theorem met_zero (w : World) (f : Nat → Prop) (hf : ∀ b, ¬ f b) (cs : Array Value) (hcs : cs = Array.replicate 32 (.bool false)) : MetAt (w.alloc (.cells cs 110)) w.heap.size f := by
  subst hcs
  refine ⟨_, Box.fresh w _ _, by simp, fun b hb => ⟨false, by simp [hb], by simp [hf b]⟩⟩
theorem Hi2.step {l : List HintA} {k F Z hb : Nat} {w wr : World} {often : Int} {loop : Bool} {q : Nat} {cs : Array Value} (hx : l.getD k default = ⟨F, Z, often, loop⟩)
    (hcs : ∀ b, b < 32 → ∃ x : Bool, cs[b]? = some (.bool x) ∧ (x = true ↔ (∃ j, j < k ∧ inH (l.getD j default) b) ∨ F ≤ b ∧ b < F + q)) (hbm : Box wr w.heap.size 110 cs) (hsz : cs.size = 32)
    (hx2 : false = true ↔ (∃ j, j < k ∧ inH (l.getD j default) (F + q)) ∨ F ≤ F + q ∧ F + q < F + q)
    (hbx : Box wr hb 88 #[.int .i64 F, .int .i64 Z, .int .i64 often, .bool loop]) (ho : Only Non w wr) (hfree : ∀ b, F ≤ b → b < F + q → ¬ ∃ j, j < k ∧ inH (l.getD j default) b) (hq : q < Z) (h32 : F + Z ≤ 32) (hne : w.heap.size ≠ hb) :
    Hi2 l k F Z hb w.heap.size w often loop (.int .i64 ((q : Int) + 1)) (wr.setCell ⟨w.heap.size, F + q, none⟩ (.bool true)) := by
  refine ⟨q + 1, hq, by simp, ⟨_, hbm.store _ _, by simpa using hsz, fun b hb => ?_⟩, fun b h1 h2 => ?_, hbx.far (fun e => hne e.symm) _, ho.setCell (.inr (Nat.le_refl _)) _⟩
  · by_cases hbq : b = F + q
    · subst hbq
      exact ⟨true, by rw [Array.getElem?_setIfInBounds_self_of_lt (by omega)], ⟨fun _ => .inr ⟨by omega, by omega⟩, fun _ => rfl⟩⟩
    · obtain ⟨x, h1, h2⟩ := hcs b hb
      refine ⟨x, by rw [Array.getElem?_setIfInBounds_ne (by omega)]; exact h1, h2.trans ⟨fun h => ?_, fun h => ?_⟩⟩
      · rcases h with h | h
        · exact .inl h
        · exact .inr ⟨h.1, by omega⟩
      · rcases h with h | h
        · exact .inl h
        · exact .inr ⟨h.1, by omega⟩
  · by_cases hbq : b = F + q
    · subst hbq
      intro h
      exact Bool.false_ne_true (hx2.2 (.inl h))
    · exact hfree b h1 (by omega)
theorem Hi1.step {blocks : Int} {l : List HintA} {k F Z : Nat} {w wr : World} {often : Int} {loop : Bool} (hx : l.getD k default = ⟨F, Z, often, loop⟩)
    (hm : MetAt wr w.heap.size (fun b => (∃ j, j < k ∧ inH (l.getD j default) b) ∨ F ≤ b ∧ b < F + Z)) (hok : ∀ j, j < k → okH blocks (l.getD j default)) (hap : ∀ i j, i < j → j < k → apartH (l.getD i default) (l.getD j default))
    (hok1 : okH blocks ⟨F, Z, often, loop⟩) (hfree : ∀ b, F ≤ b → b < F + Z → ¬ ∃ j, j < k ∧ inH (l.getD j default) b) (ho : Only Non w wr) (hlt : k < l.length) : Hi1 blocks l w (.int .i64 ((k : Int) + 1)) wr := by
  refine ⟨k + 1, hlt, by simp, ?_, fun j hj => ?_, fun i j hij hj => ?_, ho⟩
  · obtain ⟨cs, h1, h2, h3⟩ := hm
    refine ⟨cs, h1, h2, fun b hb => ?_⟩
    obtain ⟨x, h4, h5⟩ := h3 b hb
    refine ⟨x, h4, h5.trans ⟨fun h => ?_, fun ⟨j, hj, h⟩ => ?_⟩⟩
    · rcases h with ⟨j, hj, h⟩ | h
      · exact ⟨j, by omega, h⟩
      · exact ⟨k, by omega, by rw [hx]; unfold inH; dsimp only; omega⟩
    · rcases Nat.lt_or_ge j k with hk | hk
      · exact .inl ⟨j, hk, h⟩
      · obtain rfl : j = k := by omega
        rw [hx] at h
        unfold inH at h
        dsimp only at h
        exact .inr (by omega)
  · rcases Nat.lt_or_ge j k with hk | hk
    · exact hok j hk
    · obtain rfl : j = k := by omega
      rw [hx]; exact hok1
  · rcases Nat.lt_or_ge j k with hk | hk
    · exact hap i j hij hk
    · obtain rfl : j = k := by omega
      have h1 := hok i hij
      rw [hx]
      unfold okH at h1 hok1
      unfold apartH
      dsimp only at hok1 ⊢
      generalize hg : l.getD i default = g at *
      by_cases hgf : g.fr ≤ F
      · have := hfree F (Nat.le_refl _) (by omega)
        have h2 : ¬ inH g F := fun h => this ⟨i, hij, by rw [hg]; exact h⟩
        unfold inH at h2
        omega
      · by_cases hc : g.fr < F + Z
        · have := hfree g.fr.toNat (by omega) (by omega)
          have h2 : ¬ inH g g.fr.toNat := fun h => this ⟨i, hij, by rw [hg]; exact h⟩
          unfold inH at h2
          omega
        · omega
theorem hints_any (A : Option Addr) (n c : Nat) (l : List HintA) (blocks : Int) (w : World) (h : HintsAt w A n c l) (hb1 : 1 ≤ blocks) (hb2 : blocks ≤ 32) :
    Calls Tryz.prog 126 #[.slice A n c, .int .i64 blocks] w fun e w' => e = .returned (.bool (hintsB blocks l)) ∧ Only Non w w' := by
  obtain rfl := h.len
  have hcap := h.cap
  have hmax := h.max
  have H := Lib.hid h
  have HW := Lib.hid (fun n a b w => within_any n a b w)
  unfold maxLen at hmax
  clear h
  go_enter Tryz.func126, Tryz.ntmps126
  go_wp2_with fail
  go_loopw [11] (fun i wr => Hi1 blocks l w i wr) (fun i _ => l.length - (intOf i).toNat)
  case atStart => exact ⟨0, Nat.zero_le _, rfl, met_zero w _ (fun b ⟨j, hj, _⟩ => absurd hj (by omega)) _ rfl, fun j hj => absurd hj (by omega), fun i j _ hj => absurd hj (by omega), (Only.refl _ _).alloc _⟩
  case round =>
    obtain ⟨k, hk, rfl, hm, hok, hap, ho⟩ := hrel
    have Hm := Lib.hid hm
    have Hok := Lib.hid hok
    have Hap := Lib.hid hap
    have Ho := Lib.hid ho
    by_cases hlt : k < l.length
    · obtain ⟨g, o, rfl, hg, x0, x1, x2, x3⟩ := (H.out.keep ho).at_ k hlt
      have Hno := Lib.hid (fun (h : ¬ okH blocks (l.getD k default)) => hintsB_no (blocks := blocks) (l := l) fun hp => h (hp.1 k hlt))
      have hltb : (k : Int) < l.length := by omega
      have Hlt := Lib.hid hlt
      clear hm hok hap ho
      generalize hx : l.getD k default = hd at *
      obtain ⟨fr, size, often, loop⟩ := hd
      have Hx := Lib.hid hx
      clear hx
      dsimp only at x0 x1 x2 x3
      by_cases c0 : fr < 0
      · have Hr := Lib.hid (Hno.out (fun h => by unfold okH at h; dsimp only at h; omega))
        go_wp2_with fail
        go_ret
        exact ⟨by rw [Hr.out]; rfl, Ho.out.alloc _⟩
      by_cases c1 : size < 1
      · have Hr := Lib.hid (Hno.out (fun h => by unfold okH at h; dsimp only at h; omega))
        go_wp2_with fail
        go_ret
        exact ⟨by rw [Hr.out]; rfl, Ho.out.alloc _⟩
      by_cases c2 : blocks < fr
      · have Hr := Lib.hid (Hno.out (fun h => by unfold okH at h; dsimp only at h; omega))
        go_wp2_with fail
        go_ret
        exact ⟨by rw [Hr.out]; rfl, Ho.out.alloc _⟩
      have e1 : IntKind.i64.wrap (blocks - fr) = blocks - fr := IntWalk.i64_in _ (by omega)
      by_cases c3 : blocks - fr < size
      · have Hr := Lib.hid (Hno.out (fun h => by unfold okH at h; dsimp only at h; omega))
        go_wp2_with fail
        go_ret
        exact ⟨by rw [Hr.out]; rfl, Ho.out.alloc _⟩
      have e2 : IntKind.i64.wrap (fr + size) = fr + size := IntWalk.i64_in _ (by omega)
      have c4 : ¬ 32 < fr + size := by omega
      have HWw := Lib.hid (fun w => HW.out often 0 2147483647 w)
      by_cases c5 : 0 ≤ often ∧ often ≤ 2147483647
      · have hww := HWw.out
        rw [decide_eq_true c5.1, decide_eq_true c5.2] at hww
        have HWy := Lib.hid hww
        clear hww HWw
        have hfr : fr = ((fr.toNat : Nat) : Int) := by omega
        have hsz : size = ((size.toNat : Nat) : Int) := by omega
        generalize fr.toNat = F at *
        generalize size.toNat = Z at *
        subst hfr hsz
        have Hok1 := Lib.hid (show okH blocks ⟨(F : Int), (Z : Int), often, loop⟩ from by unfold okH; dsimp only; omega)
        have HbH := Lib.hid (Box.fresh wr 88 #[.int .i64 F, .int .i64 Z, .int .i64 often, .bool loop])
        have HoH := Lib.hid (Ho.out.alloc (.cells #[.int .i64 F, .int .i64 Z, .int .i64 often, .bool loop] 88))
        have HmH := Lib.hid (show MetAt (wr.alloc (.cells #[.int .i64 F, .int .i64 Z, .int .i64 often, .bool loop] 88)) w.heap.size (fun b => ∃ j, j < k ∧ inH (l.getD j default) b) from by
          obtain ⟨cs, h1, h2⟩ := Hm.out.ex
          exact ⟨cs, h1.alloc _, h2⟩)
        have HzH := Lib.hid (show w.heap.size < wr.heap.size from by obtain ⟨cs, h1, h2⟩ := Hm.out.ex; exact h1.lt)
        have F32 : F + Z ≤ 32 := by omega
        have Hmb := Lib.hid (show w.heap.size ≠ wr.heap.size from by have := HzH.out; omega)
        go_wp2_with fail
        refine (HWy.out _).mono ?_
        rintro e w5 ⟨rfl, e5⟩
        rw [← e5]
        clear e5
        go_wp2_with fail
        generalize wr.alloc (.cells #[.int .i64 F, .int .i64 Z, .int .i64 often, .bool loop] 88) = X at *
        generalize hhb : wr.heap.size = hb at *
        have Hhb := Lib.hid hhb
        clear hhb
        go_loopw [54] (fun i wr => Hi2 l k F Z hb w.heap.size w often loop i wr) (fun i _ => Z - (intOf i).toNat)
        case atStart => exact ⟨0, Nat.zero_le _, rfl, by
          obtain ⟨cs, h1, h2, h3⟩ := HmH.out
          exact ⟨cs, h1, h2, fun b hb => by
            obtain ⟨x, h4, h5⟩ := h3 b hb
            exact ⟨x, h4, h5.trans ⟨Or.inl, fun h => h.resolve_right (by omega)⟩⟩⟩, fun b h1 h2 => absurd h2 (by omega), HbH.out, HoH.out⟩
        case round =>
          obtain ⟨q, hq, rfl, hm2, hfree, hbx, ho2⟩ := hrel
          have Hfree := Lib.hid hfree
          have Hbx := Lib.hid hbx
          have Ho2 := Lib.hid ho2
          have y0 : wr.cell? ⟨hb, 0, none⟩ = some (.int .i64 F) := hbx.cellAt rfl
          have y1 : wr.cell? ⟨hb, 1, none⟩ = some (.int .i64 Z) := hbx.cellAt rfl
          by_cases hqz : q < Z
          · obtain ⟨cs, hbm, hsz, hcs⟩ := hm2.ex
            obtain ⟨x, hx1, hx2⟩ := hcs (F + q) (by omega)
            have z0 : wr.cell? ⟨w.heap.size, F + q, none⟩ = some (.bool x) := hbm.cellAt hx1
            have z1 : wr.frozen? ⟨w.heap.size, F + q, none⟩ = false := hbm.free _
            have hwq : IntKind.i64.wrap ((F : Int) + q) = ((F + q : Nat) : Int) := by rw [← Int.natCast_add]; exact IntWalk.i64_in _ (by omega)
            have Hx2 := Lib.hid hx2
            have Hcs := Lib.hid hcs
            have Hbm := Lib.hid hbm
            have Hsz := Lib.hid hsz
            have Hm2 := Lib.hid hm2
            clear hm2 hfree hbx ho2 hx2 hcs hbm hsz hx1
            cases x with
            | true =>
              have Hr := Lib.hid (hintsB_no (blocks := blocks) (l := l) fun hp => by
                obtain ⟨j, hj, hin⟩ := (Hx2.out.1 rfl).resolve_right (by omega)
                have := hp.2.1 j k hj Hlt.out
                rw [Hx.out] at this
                unfold apartH at this
                unfold inH at hin
                dsimp only at this
                omega)
              go_wp2_with fail
              go_ret
              exact ⟨by rw [Hr.out]; rfl, Ho2.out⟩
            | false =>
              go_wp2_with fail
              exact ⟨Hi2.step Hx.out Hcs.out Hbm.out Hsz.out Hx2.out Hbx.out Ho2.out Hfree.out hqz F32 Hmb.out, by simp [intOf]; omega⟩
          · obtain rfl : q = Z := by omega
            have Hm2 := Lib.hid hm2
            clear hm2 hfree hbx ho2
            go_wp2_with fail
            refine ⟨?_, ?_⟩
            · (repeat first | exact ⟨Hi1.step Hx.out Hm2.out Hok.out Hap.out Hok1.out Hfree.out Ho2.out Hlt.out, rfl⟩ | exact Hi1.step Hx.out Hm2.out Hok.out Hap.out Hok1.out Hfree.out Ho2.out Hlt.out | apply Exists.intro)
            · simp [intOf]; omega
      · have hww := HWw.out
        have hf : (decide (0 ≤ often) && decide (often ≤ 2147483647)) = false := by
          rw [Bool.and_eq_false_iff, decide_eq_false_iff_not, decide_eq_false_iff_not]; omega
        rw [hf] at hww
        have HWy := Lib.hid hww
        have Hr := Lib.hid (Hno.out (fun h => by unfold okH at h; dsimp only at h; omega))
        clear hww hf HWw
        go_wp2_with fail
        refine (HWy.out _).mono ?_
        rintro e w5 ⟨rfl, rfl⟩
        go_wp2_with fail
        go_ret
        exact ⟨by rw [Hr.out]; rfl, Ho.out.alloc _⟩
    · have hkn : k = l.length := by omega
      clear hm hok hap ho
      by_cases h8 : l.length ≤ 8
      · have Hr := Lib.hid (hintsB_yes (blocks := blocks) (l := l) ⟨fun i hi => Hok.out i (by omega), fun i j hij hj => Hap.out i j hij (by omega), h8⟩)
        have h8b : (l.length : Int) ≤ 8 := by omega
        clear hkn
        go_wp2_with fail
        go_ret
        exact ⟨by rw [Hr.out]; rfl, Ho.out⟩
      · have Hr := Lib.hid (hintsB_no (blocks := blocks) (l := l) fun hp => h8 hp.2.2)
        have h8b : ¬ (l.length : Int) ≤ 8 := by omega
        clear hkn
        go_wp2_with fail
        go_ret
        exact ⟨by rw [Hr.out]; rfl, Ho.out⟩
end
end Go.Proofs.YtcphifphidcbaaaGreat
