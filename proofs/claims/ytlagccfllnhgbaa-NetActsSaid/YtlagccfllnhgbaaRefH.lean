/- The document's net: Do, any act. -/
import Derived.Test.YtlagccfllnhgbaaRefG
namespace Go.Proofs.Ytlagccfllnhgbaa
open Go.RowKit
set_option linter.unusedVariables false
set_option linter.unusedSimpArgs false
section
set_option maxHeartbeats 4000000
set_option maxRecDepth 100000
theorem rdo_0no (nb : Nat) (n cpn : Nat) (An : Option Addr) (way i k : Int) (A : Option Addr) (nl cp : Nat) (w : World) (hn : n ≤ 32) (hw : ¬ (0 ≤ way ∧ way < n)) (n0 : w.cell? ⟨nb, 0, none⟩ = some (.slice An n cpn)) :
    Calls Try.prog 24 #[.pointer (some ⟨nb, 0, none⟩), actV 0 way i k (.slice A nl cp)] w fun e w' => e = .returned (.tuple #[.int .i64 0, .slice none 0 0, .int .i64 0]) ∧ Only Non w w' := by
  have hal := boxed_only w 0 way i k A nl cp
  have n0' := hal.cell n0 id
  obtain ⟨b0, b1, b2, b3, b4⟩ := boxed_act w 0 way i k A nl cp
  have Hal := Lib.hid hal
  unfold actV
  unfold boxed at *
  by_cases hw0 : 0 ≤ way
  · have hw1 : ¬ way < n := fun h => hw ⟨hw0, h⟩
    have hd : decide (way < (n : Int)) = false := decide_eq_false hw1
    clear hal hw n0
    go_enter Try.func24, Try.ntmps24
    go_wp2_with fail
    generalize w.alloc (.cells #[.int .i64 0, .int .i64 way, .int .i64 i, .int .i64 k, .slice A nl cp] 39) = W at *
    go_quiet (fail)
    go_wp2_with fail
    go_loopw [8, 9] (fun s i wr => s = .int .i64 0 ∧ i = .int .i64 0 ∧ ∃ m, W.drewN m = wr) (fun _ _ _ => 0)
    case atStart => exact ⟨rfl, rfl, _, rfl⟩
    case round =>
      obtain ⟨rfl, rfl, m, rfl⟩ := hrel
      go_wp2_with fail
      go_quiet (fail)
      go_wp2_with fail
      go_ret3
      exact ⟨rfl, (Hal.out.drewN _).drewN _⟩
  · have hd : decide (0 ≤ way) = false := decide_eq_false hw0
    have hd2 : (0 ≤ way) = False := eq_false hw0
    clear hal hw n0
    go_enter Try.func24, Try.ntmps24
    go_wp2_with fail
    generalize w.alloc (.cells #[.int .i64 0, .int .i64 way, .int .i64 i, .int .i64 k, .slice A nl cp] 39) = W at *
    go_quiet (fail)
    go_wp2_with fail
    go_loopw [8, 9] (fun s i wr => s = .int .i64 0 ∧ i = .int .i64 0 ∧ ∃ m, W.drewN m = wr) (fun _ _ _ => 0)
    case atStart => exact ⟨rfl, rfl, _, rfl⟩
    case round =>
      obtain ⟨rfl, rfl, m, rfl⟩ := hrel
      go_wp2_with fail
      go_quiet (fail)
      go_wp2_with fail
      go_ret3
      exact ⟨rfl, (Hal.out.drewN _).drewN _⟩
end
theorem thereC_no {c : Cont} {way : Int} {n : Nat} (hn : c.length = n) (h : thereC c way = false) : ¬ (0 ≤ way ∧ way < n) := by
  subst hn
  intro hw
  simp [thereC, hw.1, hw.2] at h
theorem rdo_5any (base nb : Nat) (F H : Nat → Prop) (c : Cont) (way i k : Int) (A : Option Addr) (nl cp : Nat) (w : World) (h : NetIs 52 w base nb F H c) (hbase : base ≤ w.heap.size) :
    Calls Try.prog 24 #[.pointer (some ⟨nb, 0, none⟩), actV 5 way i k (.slice A nl cp)] w (RDoPost base nb F H ⟨clearC c way, 0, [], 0⟩ w) := by
  cases hb : thereC c way
  · rw [clearC, hb, if_neg (by decide)]
    have h' := h
    obtain ⟨hv, vs, rows, hA⟩ := h'
    obtain ⟨An, cpn, _, n0, _, _⟩ := hA.head
    refine (rdo_5no nb vs.length cpn An way i k A nl cp w (by rw [← hA.nc]; exact hA.c32) (thereC_no hA.nc hb) n0).mono ?_
    rintro e w' ⟨rfl, ho⟩
    exact RDoPost.no (s := 0) (.same h ho)
  · rw [clearC, hb, if_pos rfl]
    obtain ⟨hw0, hw1⟩ := thereC_bd hb
    obtain ⟨hv, vs, rows, h⟩ := h
    have hj : way.toNat < vs.length := by rw [← h.nc]; omega
    obtain ⟨wb, cpn, A1, cq, ehv, n0, _, n1, hf, _, _⟩ := h.way hj
    have hwb : ownB hv wb := by rw [ehv]; exact ownB_slice.2 rfl
    refine (rdo_5yes nb wb vs.length cpn _ cq A1 way i k A nl cp w (by rw [← h.nc]; exact h.c32) hw0 (by rw [← h.nc]; exact hw1) n0 n1 hf).mono ?_
    rintro e w' ⟨rfl, W, ho, m, rfl⟩
    exact RDoPost.no (s := 0) ((h.fresh (row' := []) (crow' := []) hj hbase ho hwb (Row.nil_ _ _) (fun k hk => (ownB_none hk).elim) rfl (Nat.zero_le _) (fun i hi => absurd hi (Nat.not_lt_zero _))).drew m)
theorem rdo_any (base nb : Nat) (F H : Nat → Prop) (c : Cont) (kind way i k : Int) (A : Option Addr) (cp : Nat) (fs : List Value) (ls : List (List Int)) (w : World) (h : NetIs 52 w base nb F H c) (hbase : base ≤ w.heap.size)
    (hfin : Fin w base A fs ls) (hlen : ls.length ≤ 1000000) (hcp : ls.length ≤ cp) (hcm : cp ≤ maxLen) (hk0 : 0 ≤ kind) (hk5 : kind ≤ 5) :
    Calls Try.prog 24 #[.pointer (some ⟨nb, 0, none⟩), actV kind way i k (.slice A ls.length cp)] w (RDoPost base nb F H (doC c kind way i k ls) w) := by
  have no5 : ∀ {e : Ending} {w' : World}, e = .returned (.tuple #[.int .i64 0, .slice none 0 0, .int .i64 5]) ∧ Only Non w w' → RDoPost base nb F H ⟨c, 0, [], 5⟩ w e w' := by
    rintro e w' ⟨rfl, ho⟩
    exact RDoPost.no (s := 0) (.same h ho)
  unfold doC
  by_cases h0 : kind = 0
  · subst h0
    rw [if_pos rfl]
    cases hb : thereC c way
    · rw [if_neg (by decide)]
      have h' := h
      obtain ⟨hv, vs, rows, hA⟩ := h'
      obtain ⟨An, cpn, _, n0, _, _⟩ := hA.head
      refine (rdo_0no nb vs.length cpn An way i k A ls.length cp w (by rw [← hA.nc]; exact hA.c32) (thereC_no hA.nc hb) n0).mono ?_
      rintro e w' ⟨rfl, ho⟩
      exact RDoPost.no (s := 0) (.same h ho)
    · rw [if_pos rfl]
      obtain ⟨hw0, hw1⟩ := thereC_bd hb
      exact rdo_0yes base nb F H c way i k A cp fs ls w h hbase hfin hlen hcp hcm hw0 hw1
  rw [if_neg h0]
  by_cases h1 : kind = 1
  · subst h1
    rw [if_pos rfl]
    cases hb : hasC c way i
    · rw [if_neg (by decide)]
      exact (rdo_no nb base F H c 1 way i k A _ cp w h (by decide) (by decide) hb).mono fun _ _ => no5
    · rw [if_pos rfl]
      exact rdo_1 base nb F H c way i k A _ cp w h hbase hb
  rw [if_neg h1]
  by_cases h2 : kind = 2
  · subst h2
    rw [if_pos rfl]
    cases hb : hasC c way i
    · rw [if_neg (by decide)]
      exact (rdo_no nb base F H c 2 way i k A _ cp w h (by decide) (by decide) hb).mono fun _ _ => no5
    · rw [if_pos rfl]
      by_cases h4 : (c.row way.toNat).length < 400
      · rw [if_pos h4]
        exact rdo_2ok base nb F H c way i k A _ cp w h hbase hb h4
      · rw [if_neg h4]
        exact rdo_2full base nb F H c way i k A _ cp w h hbase hb (by omega)
  rw [if_neg h2]
  by_cases h3 : kind = 3
  · subst h3
    rw [if_pos rfl]
    cases hb : hasC c way i
    · rw [if_neg (by decide)]
      exact (rdo_no nb base F H c 3 way i k A _ cp w h (by decide) (by decide) hb).mono fun _ _ => no5
    · rw [if_pos rfl]
      exact rdo_3 base nb F H c way i k A _ cp w h hbase hb
  rw [if_neg h3]
  by_cases h4 : kind = 4
  · subst h4
    rw [if_pos rfl]
    cases hb : hasC c way i
    · rw [if_neg (by simp)]
      exact (rdo_no nb base F H c 4 way i k A _ cp w h (by decide) (by decide) hb).mono fun _ _ => no5
    · cases hbk : hasC c way k
      · rw [if_neg (by decide)]
        exact (rdo_4no nb base F H c way i k A _ cp w h hb hbk).mono fun _ _ => no5
      · rw [if_pos (by decide)]
        exact rdo_4 base nb F H c way i k A _ cp w h hbase hb hbk
  rw [if_neg h4]
  obtain rfl : kind = 5 := by omega
  exact rdo_5any base nb F H c way i k A _ cp w h hbase
end Go.Proofs.Ytlagccfllnhgbaa
