/- HistLinear, walked: operations are linear just where each block's are. -/
import Derived.Test.YthfafegfooibmaaHistH
namespace Go.Proofs.Ythfafegfooibmaa
open Go.RowKit Go.ChangeShapes Go.WideShapes
set_option linter.unusedVariables false
set_option linter.unusedSimpArgs false
def HlRel (l : List DoneR) (size : Int) (W : World) (wv i : Value) (wr : World) : Prop :=
  ∃ (k : Nat) (want : Bool), k ≤ l.length ∧ i = .int .i64 k ∧ wv = .bool want ∧ (want = decide (∀ j, j < k → codeD l (l.getD j default).block size = 0)) ∧ (∀ j, j < k → codeD l (l.getD j default).block size ≠ 4) ∧ Only Non W wr
theorem lin_four {l : List DoneR} {size : Int} (h1 : 1 ≤ size) (h2 : size ≤ 16) {k : Nat} (hk : k < l.length) (hc : codeD l (l.getD k default).block size = 4) : linD l size = (false, 4) := by
  unfold linD
  rw [if_neg (by omega), if_pos]
  exact ⟨l.getD k default, by simp [hk], hc⟩
theorem lin_end {l : List DoneR} {size : Int} (h1 : 1 ≤ size) (h2 : size ≤ 16) (h : ∀ j, j < l.length → codeD l (l.getD j default).block size ≠ 4) :
    linD l size = (decide (∀ j, j < l.length → codeD l (l.getD j default).block size = 0), 0) := by
  unfold linD
  rw [if_neg (by omega), if_neg]
  · refine congrArg (·, 0) ?_
    rw [decide_eq_decide]
    constructor
    · intro hh j hj
      exact hh _ (by simp [hj])
    · intro hh o ho
      obtain ⟨j, hj, rfl⟩ := List.mem_iff_getElem.1 ho
      have := hh j hj
      have e : l.getD j default = l[j] := by simp [hj]
      rwa [e] at this
  · rintro ⟨o, ho, hc⟩
    obtain ⟨j, hj, rfl⟩ := List.mem_iff_getElem.1 ho
    have e : l.getD j default = l[j] := by simp [hj]
    exact h j hj (by rw [e]; exact hc)
section
set_option maxHeartbeats 4000000
set_option maxRecDepth 100000
theorem histLinear_walk (A : Option Addr) (c : Nat) (l : List DoneR) (size : Int) (w : World) (h : DonesAt w A l.length c l) :
    Calls Try.prog 3 #[.slice A l.length c, .int .i64 size] w (Rb true w) := by
  have hcap := h.cap
  have hmax := h.max
  unfold maxLen at hmax
  have H := Lib.hid h
  clear h
  have HK := Lib.hid (wakes_any w)
  go_enter Try.func3, Try.ntmps3
  go_wp2_with fail
  refine HK.out.mono ?_
  rintro e W1 ⟨rfl, ho1⟩
  have HO1 := Lib.hid ho1
  have H1 := Lib.hid (H.out.keep ho1)
  have HL := long_any A c l 40 W1 H1.out
  clear ho1 HK
  by_cases hlong : longD l 40 = true
  · rw [hlong] at HL
    have HL := Lib.hid HL
    clear hlong
    go_wp2_with fail
    refine HL.out.mono ?_
    rintro e W2 ⟨rfl, rfl⟩
    go_wp2
    go_ret
    exact ⟨rfl, HO1.out⟩
  · have hl40 : l.length ≤ 40 := by
      unfold longD at hlong
      simp only [Bool.or_eq_true, decide_eq_true_eq, not_or] at hlong
      omega
    have hlf : longD l 40 = false := by simpa using hlong
    rw [hlf] at HL
    have HL := Lib.hid HL
    clear hlong hlf
    go_wp2_with fail
    refine HL.out.mono ?_
    rintro e W2 ⟨rfl, rfl⟩
    clear HL
    by_cases hs : size < 1 ∨ 16 < size
    · have HD := linear_bad A l.length c l size W1 hs
      have hR : linD l size = (false, 6) := by unfold linD; rw [if_pos hs]
      rw [hR] at HD
      have HD := Lib.hid HD
      clear hR
      by_cases hs1 : size < 1
      · clear hs
        go_wp2_with fail
        refine HD.out.mono ?_
        rintro e W3 ⟨rfl, ho3⟩
        have HO3 := Lib.hid (HO1.out.trans ho3)
        clear ho3
        go_wp2
        go_ret
        exact ⟨rfl, HO3.out⟩
      · have hs2 : size > 16 := by omega
        clear hs
        go_wp2_with fail
        refine HD.out.mono ?_
        rintro e W3 ⟨rfl, ho3⟩
        have HO3 := Lib.hid (HO1.out.trans ho3)
        clear ho3
        go_wp2
        go_ret
        exact ⟨rfl, HO3.out⟩
    · have hs1 : ¬ size < 1 := by omega
      have hs2 : ¬ size > 16 := by omega
      obtain ⟨sz, rfl⟩ := Int.eq_ofNat_of_zero_le (show 0 ≤ size by omega)
      have HD := Lib.hid (linear_any A c l sz W1 H1.out (by omega) (by omega) (by omega))
      have hRex : ∃ R, R = linD l sz := ⟨_, rfl⟩
      obtain ⟨R, hR⟩ := hRex
      have HR := Lib.hid hR
      rw [← hR] at HD
      clear hs hR
      go_wp2_with fail
      refine HD.out.mono ?_
      rintro e W3 ⟨rfl, ho3⟩
      have HO3 := Lib.hid (HO1.out.trans ho3)
      have H3 := Lib.hid (H1.out.keep ho3)
      clear ho3 HD
      go_wp2_with fail
      go_loopw [7, 35] (fun b i wr => HlRel l sz W3 b i wr) (fun _ i _ => l.length - (intOf i).toNat)
      case atStart => exact ⟨0, true, Nat.zero_le _, rfl, rfl, by simp, fun j hj => absurd hj (Nat.not_lt_zero _), Only.refl _ _⟩
      case round =>
        obtain ⟨k, want, hk, rfl, rfl, hw, hno, ho⟩ := hrel
        have HO4 := Lib.hid ho
        have H4 := Lib.hid (H3.out.keep ho)
        have Hw := Lib.hid hw
        have Hno := Lib.hid hno
        clear ho hw hno
        by_cases hlt : k < l.length
        · obtain ⟨g, o, dA, dc, eA, hg, hcells, hby⟩ := H4.out.at_ k hlt
          subst eA
          have d4 : wr.cell? ⟨g, o + k * 10 + 4, none⟩ = some (.int .i64 (l.getD k default).block) := hcells 4 _ rfl
          have hki : (k : Int) < l.length := by omega
          have HC := order_any (some ⟨g, o, none⟩) c l (l.getD k default).block sz wr H4.out (by omega) (by omega) (by omega)
          have Hlt := Lib.hid hlt
          clear hcells hby hlt
          have hcc := code_cases l (block := (l.getD k default).block) (size := sz) (by omega) (by omega)
          have Hk1 := Lib.hid (fun j (hj : j < k + 1) => show j < k ∨ j = k from by omega)
          have HL4 := Lib.hid (lin_four (l := l) (size := sz) (by omega) (by omega) Hlt.out)
          generalize hbk : (l.getD k default).block = bk at *
          have Hbk := Lib.hid hbk
          clear hbk
          rcases hcc with hcq | hcq | hcq
          · rw [hcq] at HC
            have HC := Lib.hid HC
            have hw' : want = decide (∀ j, j < k + 1 → codeD l (l.getD j default).block sz = 0) := by
              rw [Hw.out, decide_eq_decide]
              constructor
              · intro h j hj
                rcases Hk1.out j hj with h' | rfl
                · exact h j h'
                · rw [Hbk.out]; exact hcq
              · intro h j hj
                exact h j (by omega)
            have hno' : ∀ j, j < k + 1 → codeD l (l.getD j default).block sz ≠ 4 := fun j hj => by
              rcases Hk1.out j hj with h' | rfl
              · exact Hno.out j h'
              · rw [Hbk.out, hcq]; decide
            have Hw' := Lib.hid hw'
            have Hno' := Lib.hid hno'
            clear hcq hw' hno'
            go_wp2_with fail
            refine HC.out.mono ?_
            rintro e W5 ⟨v5, rfl, ho5⟩
            have HO5 := Lib.hid (HO4.out.trans ho5)
            clear ho5
            go_wp2
            exact ⟨⟨k + 1, want, Hlt.out, by simp, rfl, Hw'.out, Hno'.out, HO5.out⟩, by have := Hlt.out; simp [intOf]; omega⟩
          · rw [hcq] at HC
            have HC := Lib.hid HC
            have hR4 : R = (false, 4) := HR.out.trans (HL4.out hcq)
            clear hcq
            subst hR4
            go_wp2_with fail
            refine HC.out.mono ?_
            rintro e W5 ⟨v5, rfl, ho5⟩
            have HO5 := Lib.hid (HO4.out.trans ho5)
            clear ho5
            go_wp2
            go_ret
            exact ⟨rfl, HO3.out.trans HO5.out⟩
          · rw [hcq] at HC
            have HC := Lib.hid HC
            have hw' : false = decide (∀ j, j < k + 1 → codeD l (l.getD j default).block sz = 0) := by
              refine (decide_eq_false fun h => ?_).symm
              have := h k (by omega)
              rw [Hbk.out, hcq] at this
              exact absurd this (by decide)
            have hno' : ∀ j, j < k + 1 → codeD l (l.getD j default).block sz ≠ 4 := fun j hj => by
              rcases Hk1.out j hj with h' | rfl
              · exact Hno.out j h'
              · rw [Hbk.out, hcq]; decide
            have Hw' := Lib.hid hw'
            have Hno' := Lib.hid hno'
            clear hcq hw' hno'
            go_wp2_with fail
            refine HC.out.mono ?_
            rintro e W5 ⟨v5, rfl, ho5⟩
            have HO5 := Lib.hid (HO4.out.trans ho5)
            clear ho5
            go_wp2
            exact ⟨⟨k + 1, false, Hlt.out, by simp, rfl, Hw'.out, Hno'.out, HO5.out⟩, by have := Hlt.out; simp [intOf]; omega⟩
        · obtain rfl : k = l.length := by omega
          have hR2 : R = (want, 0) := by rw [HR.out, lin_end (by omega) (by omega) Hno.out, ← Hw.out]
          subst hR2
          clear hlt
          go_wp2
          go_ret
          exact ⟨by simp, HO3.out.trans HO4.out⟩
end
end Go.Proofs.Ythfafegfooibmaa
