/- conf.numbers: numbers are read into places. -/
import Derived.Test.YtaofjnpmnaohcaaGetB
namespace Go.Proofs.Ytaofjnpmnaohcaa
open Go.RowKit
set_option linter.unusedVariables false
set_option linter.unusedSimpArgs false
def offN (pre : List Int) (vs : List Nat) (k : Nat) : Nat := pre.length + (catN (vs.take k)).length
theorem offN_zero (pre : List Int) (vs : List Nat) : offN pre vs 0 = pre.length := by simp [offN, catN]
theorem offN_succ (pre : List Int) (vs : List Nat) {k : Nat} (hk : k < vs.length) : offN pre vs (k + 1) = offN pre vs k + (encN (vs.getD k 0)).length := by
  unfold offN; rw [catN_succ vs hk, List.length_append, Nat.add_assoc]
theorem catN_split (vs : List Nat) {k : Nat} (hk : k < vs.length) : catN vs = catN (vs.take k) ++ (encN (vs.getD k 0) ++ catN (vs.drop (k + 1))) := by
  have h : catN vs = catN (vs.take k) ++ catN (vs.drop k) := by unfold catN; rw [← List.flatMap_append, List.take_append_drop]
  have e : vs.drop k = vs.getD k 0 :: vs.drop (k + 1) := by
    rw [List.drop_eq_getElem_cons hk]
    congr 1
    simp [List.getD, hk]
  rw [h, e]
  rfl
theorem rd_offN {b pre post : List Int} {vs : List Nat} (hb : b = pre ++ (catN vs ++ post)) {k : Nat} (hk : k < vs.length) (hv : vs.getD k 0 < 2 ^ 63) :
    offN pre vs k ≤ b.length ∧ inR (b.drop (offN pre vs k)) 0 ∧ rd (b.drop (offN pre vs k)) = .ok (vs.getD k 0) (encN (vs.getD k 0)).length := by
  have e : b = (pre ++ catN (vs.take k)) ++ (encN (vs.getD k 0) ++ (catN (vs.drop (k + 1)) ++ post)) := by
    rw [hb, catN_split vs hk]; simp only [List.append_assoc]
  have e2 : offN pre vs k = (pre ++ catN (vs.take k)).length := by unfold offN; rw [List.length_append]
  rw [e2, e]
  refine ⟨by simp only [List.length_append]; omega, ?_, ?_⟩
  · rw [List.drop_left]; exact inR_num _ _ hv
  · rw [List.drop_left]; exact rd_put _ _ hv
def NbRel (pre : List Int) (vs : List Nat) (I : Nat → World → Prop) (at_ i : Value) (wr : World) : Prop := ∃ k : Nat, k ≤ vs.length ∧ i = .int .i64 k ∧ at_ = .int .i64 (offN pre vs k : Nat) ∧ I k wr
section
set_option maxHeartbeats 2000000
set_option maxRecDepth 100000
theorem numbers_any (A : Option Addr) (n c : Nat) (b pre post : List Int) (vs : List Nat) (B : Option Addr) (m cb : Nat) (pg po : Nat → Nat) (I : Nat → World → Prop) (w : World)
    (hm : m = vs.length) (hml : m ≤ 100) (hb : b = pre ++ (catN vs ++ post)) (hv : ∀ k, k < vs.length → vs.getD k 0 < 2 ^ 63) (h0 : I 0 w)
    (hI : ∀ k wr, k < vs.length → I k wr → Byt wr (.slice A n c) b ∧ (∃ g o, B = some ⟨g, o, none⟩ ∧ wr.cell? ⟨g, o + k, none⟩ = some (.pointer (some ⟨pg k, po k, none⟩))) ∧
      (∃ u, wr.cell? ⟨pg k, po k, none⟩ = some u) ∧ wr.frozen? ⟨pg k, po k, none⟩ = false ∧ I (k + 1) (wr.setCell ⟨pg k, po k, none⟩ (.int .i64 (vs.getD k 0 : Nat)))) :
    Calls Try.prog 37 #[.slice A n c, .int .i64 pre.length, .slice B m cb] w fun e w' => e = .returned (.tuple #[.int .i64 (offN pre vs vs.length : Nat), .int .i64 0]) ∧ I vs.length w' := by
  subst hm
  have HI := Lib.hid hI
  have Hv := Lib.hid hv
  have HS := Lib.hid (show NbRel pre vs I (.int .i64 pre.length) (.int .i64 0) w from ⟨0, Nat.zero_le _, rfl, by rw [offN_zero], h0⟩)
  clear hI hv h0
  go_enter Try.func37, Try.ntmps37
  go_wp2_with fail
  go_loopw [1, 15] (fun at_ i wr => NbRel pre vs I at_ i wr) (fun _ i _ => vs.length - (intOf i).toNat)
  case atStart => exact HS.out
  case round =>
    clear HS
    obtain ⟨k, hk, rfl, rfl, hi⟩ := hrel
    by_cases hlt : k < vs.length
    · have hlti : (k : Int) < vs.length := by omega
      obtain ⟨hby, ⟨g, o, hB, hc⟩, ⟨u, hu⟩, hf, hn⟩ := HI.out k wr hlt hi
      subst hB
      have hr := rd_offN hb hlt (Hv.out k hlt)
      have HG := Lib.hid (rawget_any A n c b (offN pre vs k) wr hby hr.1 hr.2.1)
      rw [getV_ok hr.2.2] at HG
      have HR := Lib.hid (show NbRel pre vs I (.int .i64 (offN pre vs (k + 1) : Nat)) (.int .i64 ((k : Int) + 1)) (wr.setCell ⟨pg k, po k, none⟩ (.int .i64 (vs.getD k 0 : Nat))) from ⟨k + 1, hlt, by simp, rfl, hn⟩)
      rw [offN_succ pre vs hlt] at HR
      clear hn hr hby hi hb
      generalize offN pre vs k + (encN (vs.getD k 0)).length = q1 at *
      generalize offN pre vs k = q at *
      generalize vs.getD k 0 = N at *
      generalize pg k = pgk at *
      generalize po k = pok at *
      go_wp2_with fail
      refine HG.out.mono ?_
      rintro e w5 ⟨rfl, e5⟩
      rw [← e5]
      clear e5
      go_wp2_with fail
      refine ⟨?_, ?_⟩
      · (repeat first | exact ⟨HR.out, rfl⟩ | exact HR.out | apply Exists.intro)
      · simp [intOf]; omega
    · obtain rfl : k = vs.length := by omega
      have HF := Lib.hid hi
      clear hi hlt hk hb
      generalize hq : offN pre vs vs.length = q at *
      have Hq := Lib.hid hq
      clear hq
      go_wp2_with fail
      go_ret2
      exact ⟨by rw [Hq.out]; rfl, HF.out⟩
end
end Go.Proofs.Ytaofjnpmnaohcaa
