/- Lists of acts; long. -/
import Derived.Test.YtlagccfllnhgbaaNetK
namespace Go.Proofs.Ytlagccfllnhgbaa
open Go.RowKit Go.ChangeShapes Go.WideShapes Go.ChangeAt Go.Deep
set_option linter.unusedVariables false
set_option linter.unusedSimpArgs false
structure ActA where
  kind : Int
  way : Int
  i : Int
  k : Int
  ls : List (List Int)
instance : Inhabited ActA := ⟨⟨0, 0, 0, 0, []⟩⟩
/-- act number i of those at A -/
def ActAt (w : World) (base : Nat) (A : Option Addr) (i : Nat) (a : ActA) : Prop :=
  ∃ g o A' c' fs, A = some ⟨g, o, none⟩ ∧ g < base ∧ w.cell? ⟨g, o + i * 5, none⟩ = some (.int .i64 a.kind) ∧ w.cell? ⟨g, o + i * 5 + 1, none⟩ = some (.int .i64 a.way) ∧ w.cell? ⟨g, o + i * 5 + 2, none⟩ = some (.int .i64 a.i) ∧
    w.cell? ⟨g, o + i * 5 + 3, none⟩ = some (.int .i64 a.k) ∧ w.cell? ⟨g, o + i * 5 + 4, none⟩ = some (.slice A' a.ls.length c') ∧ a.ls.length ≤ c' ∧ c' ≤ maxLen ∧ Fin w base A' fs a.ls
def Acts (w : World) (base : Nat) (A : Option Addr) (L : List ActA) : Prop := ∀ i, i < L.length → ActAt w base A i (L.getD i default)
theorem ActAt.only {S : Nat → Prop} {w w' : World} {base i : Nat} {A : Option Addr} {a : ActA} (h : ActAt w base A i a) (ho : Only S w w') (hS : ∀ k, S k → base ≤ k) : ActAt w' base A i a := by
  obtain ⟨g, o, A', c', fs, e, hg, h0, h1, h2, h3, h4, hc, hm, hf⟩ := h
  have hn : ¬ S g := fun hs => by have := hS g hs; omega
  exact ⟨g, o, A', c', fs, e, hg, ho.cell h0 hn, ho.cell h1 hn, ho.cell h2 hn, ho.cell h3 hn, ho.cell h4 hn, hc, hm, hf.only ho hS⟩
theorem Acts.only {S : Nat → Prop} {w w' : World} {base : Nat} {A : Option Addr} {L : List ActA} (h : Acts w base A L) (ho : Only S w w') (hS : ∀ k, S k → base ≤ k) : Acts w' base A L := fun i hi => (h i hi).only ho hS

section
variable {H : Type} {enc : TypeId × Value → H} {P : Program} {w : World} {base : Nat} {spare : Nat → Bool} {held : Bool}
theorem acts_val {t e ti tL tF tb : TypeId} {flds : Array Field} {r : Reach} {b0 : Nat} {v : Value} {d : DataW H} {p : List MemPlace} (ht : P.underlying t = some (.slice e)) (hC : P.cellsOf e = 5) (hs : P.underlying e = some (.struct flds))
    (hone : oneCellFields P flds = true) (hi : P.underlying ti = some (.int .i64)) (hfs : flds.map (fun f : Field => f.type) = #[ti, ti, ti, ti, tL]) (hL : P.underlying tL = some (.slice tF)) (hCF : P.cellsOf tF = 1)
    (hF : P.underlying tF = some (.slice tb)) (hCb : P.cellsOf tb = 1) (hb : P.underlying tb = some (.int .u8)) (hby : P.bytesOf tb = 1) (hv : Value.okWide P w r b0 t v) (h : DataW.Trod enc P w base spare held t v d p) (hz : Small P t d) :
    ∃ A c L, v = .slice A (List.length L) c ∧ L.length ≤ c ∧ c ≤ maxLen ∧ Acts w w.heap.size A L := by
  obtain ⟨A0, len0, cap0, rfl⟩ := okWide_slice ht hv
  obtain ⟨fuel, hf⟩ := h
  obtain ⟨A, len, cap, n, e1, hl, hm, _, hel⟩ := slice_trod ht hC (by decide) hf hz
  have key : ∀ i, i < len → ∃ a : ActA, ActAt w w.heap.size A i a := by
    intro i hil
    obtain ⟨cs, y, ⟨hcl, g, o, rfl, hg, hcell⟩, htr, hsm⟩ := hel i hil
    obtain ⟨x0, x1, x2, x3, vL, m, y', rfl, ht2, hs2⟩ := act_cells hs hone hi hfs hcl htr hsm
    obtain ⟨A', c', fs, ls, e2, q1, q2, q3⟩ := frames_trod hL hCF hF hCb hb hby ht2 hs2
    simp only [List.cons.injEq, and_true] at e2
    subst e2
    exact ⟨⟨x0, x1, x2, x3, ls⟩, g, o, A', c', fs, rfl, hg, hcell 0 (by omega), hcell 1 (by omega), hcell 2 (by omega), hcell 3 (by omega), hcell 4 (by omega), q1, q2, q3⟩
  obtain ⟨L, hL, hR⟩ := choose_list len default _ key
  subst hL
  refine ⟨A, cap, L, ?_, hl, hm, hR⟩
  simpa [Value.cells] using e1
end

def longB (L : List ActA) : Bool := decide (100 < L.length) || L.any fun a => decide (500 < a.ls.length)
def LgRel (L : List ActA) (w : World) (i : Value) (wr : World) : Prop := ∃ k : Nat, k ≤ L.length ∧ i = .int .i64 k ∧ (∀ j, j < k → ¬ 500 < (L.getD j default).ls.length) ∧ w = wr
section
set_option maxHeartbeats 2000000
theorem nlong_any (base : Nat) (A : Option Addr) (cp : Nat) (L : List ActA) (w : World) (h : Acts w base A L) (hcp : L.length ≤ cp) (hcm : cp ≤ maxLen) :
    Calls Try.prog 20 #[.slice A L.length cp] w fun e w' => e = .returned (.bool (longB L)) ∧ w = w' := by
  by_cases h1 : 100 < L.length
  · have e : longB L = true := by simp [longB, h1]
    rw [e]
    generalize L.length = n at *
    unfold maxLen at hcm
    have h2 : 100 < (n : Int) := by omega
    clear h e
    go_enter Try.func20, Try.ntmps20
    go_wp2
    go_ret
    exact ⟨rfl, rfl⟩
  · have hall : (∀ j, j < L.length → ¬ 500 < (L.getD j default).ls.length) → longB L = false := by
      intro hj
      simp only [longB, Bool.or_eq_false_iff, decide_eq_false_iff_not, List.any_eq_false]
      refine ⟨h1, fun a ha => ?_⟩
      obtain ⟨j, hjl, rfl⟩ := List.mem_iff_getElem.1 ha
      have := hj j hjl
      simpa [hjl] using this
    have hsome : ∀ j, j < L.length → 500 < (L.getD j default).ls.length → longB L = true := by
      intro j hj hlt
      simp only [longB, Bool.or_eq_true, decide_eq_true_eq, List.any_eq_true]
      exact .inr ⟨L[j], List.getElem_mem hj, by simpa [hj] using hlt⟩
    have Hall := Lib.hid hall
    have Hsome := Lib.hid hsome
    have Hacts := Lib.hid h
    have Hst := Lib.hid (show LgRel L w (.int .i64 0) w from ⟨0, Nat.zero_le _, rfl, fun j hj => absurd hj (Nat.not_lt_zero _), rfl⟩)
    generalize hn : L.length = n at *
    have Hn := Lib.hid hn
    unfold maxLen at hcm
    have h2 : ¬ 100 < (n : Int) := by omega
    clear h hall hsome hn
    go_enter Try.func20, Try.ntmps20
    go_wp2_with fail
    go_loopw [9] (fun i wr => LgRel L w i wr) (fun i _ => n - (intOf i).toNat)
    case atStart => exact Hst.out
    case round =>
      clear Hst
      obtain ⟨k, hk, rfl, hj, rfl⟩ := hrel
      rw [Hn.out] at hk
      have Hj := Lib.hid hj
      clear hj
      by_cases hlt : k < n
      · obtain ⟨g, o, A', c', fs, rfl, hg, c0, c1, c2, c3, c4, hq, hqm, hf⟩ := Hacts.out k (by rw [Hn.out]; exact hlt)
        have Hs := Lib.hid (Hsome.out k hlt)
        have Hk := Lib.hid (rfl : (L.getD k default).ls.length = (L.getD k default).ls.length)
        generalize hm : (L.getD k default).ls.length = m at *
        have Hm := Lib.hid hm
        unfold maxLen at hqm
        clear hf hm c0 c1 c2 c3
        by_cases h5 : 500 < (m : Int)
        · go_wp2_with fail
          go_ret
          exact ⟨by rw [Hs.out (by omega)]; rfl, rfl⟩
        · go_wp2_with fail
          refine ⟨⟨k + 1, by rw [Hn.out]; omega, by go_num, fun j hj => ?_, rfl⟩, by simp [intOf]; omega⟩
          by_cases hjk : j < k
          · exact Hj.out j hjk
          · have : j = k := by omega
            subst this
            rw [Hm.out]; omega
      · have hkn : k = n := by omega
        subst hkn
        go_wp2_with fail
        go_ret
        exact ⟨by rw [Hall.out Hj.out]; rfl, rfl⟩
end
end Go.Proofs.Ytlagccfllnhgbaa
