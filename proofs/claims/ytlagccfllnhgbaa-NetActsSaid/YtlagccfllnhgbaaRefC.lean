/- The document's net: Do, the acts that change nothing, and Clear. -/
import Derived.Test.YtlagccfllnhgbaaRefB
namespace Go.Proofs.Ytlagccfllnhgbaa
open Go.RowKit
set_option linter.unusedVariables false
set_option linter.unusedSimpArgs false
def RDoPost (base nb : Nat) (F H : Nat → Prop) (d : Done) (w : World) (e : Ending) (w' : World) : Prop :=
  ∃ v, e = .returned (.tuple #[.int .i64 d.sent, v, .int .i64 d.err]) ∧ Byt w' v d.frame ∧ (∀ k, ownB v k → H k ∧ ¬ F k) ∧ NetPost 52 base nb F H d.c w w'
theorem RDoPost.no {base nb : Nat} {F H : Nat → Prop} {c' : Cont} {w w' : World} {s : Nat} {x : Int} (hn : NetPost 52 base nb F H c' w w') : RDoPost base nb F H ⟨c', s, [], x⟩ w (.returned (.tuple #[.int .i64 s, .slice none 0 0, .int .i64 x])) w' :=
  ⟨_, rfl, byt_nil _, fun k hk => (ownB_none hk).elim, hn⟩
def RActV (W : World) (ab : Nat) (kind way i k : Int) (A : Option Addr) (n cp : Nat) : Prop :=
  W.cell? ⟨ab, 0, none⟩ = some (.int .i64 kind) ∧ W.cell? ⟨ab, 1, none⟩ = some (.int .i64 way) ∧ W.cell? ⟨ab, 2, none⟩ = some (.int .i64 i) ∧ W.cell? ⟨ab, 3, none⟩ = some (.int .i64 k) ∧ W.cell? ⟨ab, 4, none⟩ = some (.slice A n cp)
theorem boxed_act (w : World) (kind way i k : Int) (A : Option Addr) (n cp : Nat) : RActV (boxed w kind way i k A n cp) w.heap.size kind way i k A n cp := by
  have hb := Box.fresh w 39 #[.int .i64 kind, .int .i64 way, .int .i64 i, .int .i64 k, .slice A n cp]
  exact ⟨hb.cellAt rfl, hb.cellAt rfl, hb.cellAt rfl, hb.cellAt rfl, hb.cellAt rfl⟩
section
set_option maxHeartbeats 4000000
set_option maxRecDepth 100000
theorem rdo_5no (nb : Nat) (n cpn : Nat) (An : Option Addr) (way i k : Int) (A : Option Addr) (nl cp : Nat) (w : World) (hn : n ≤ 32) (hw : ¬ (0 ≤ way ∧ way < n)) (n0 : w.cell? ⟨nb, 0, none⟩ = some (.slice An n cpn)) :
    Calls Try.prog 24 #[.pointer (some ⟨nb, 0, none⟩), actV 5 way i k (.slice A nl cp)] w fun e w' => e = .returned (.tuple #[.int .i64 0, .slice none 0 0, .int .i64 0]) ∧ Only Non w w' := by
  have hal := boxed_only w 5 way i k A nl cp
  have n0' := hal.cell n0 id
  obtain ⟨b0, b1, b2, b3, b4⟩ := boxed_act w 5 way i k A nl cp
  have Hal := Lib.hid hal
  unfold actV
  unfold boxed at *
  by_cases hw0 : 0 ≤ way
  · have hw1 : ¬ way < n := fun h => hw ⟨hw0, h⟩
    clear hal hw n0
    go_enter Try.func24, Try.ntmps24
    go_wp2_with fail
    generalize w.alloc (.cells #[.int .i64 5, .int .i64 way, .int .i64 i, .int .i64 k, .slice A nl cp] 39) = W at *
    go_quiet (fail)
    go_wp2_with fail
    go_ret3
    exact ⟨rfl, Hal.out.drewN _⟩
  · have hd : decide (0 ≤ way) = false := decide_eq_false hw0
    have hd2 : (0 ≤ way) = False := eq_false hw0
    clear hal hw n0
    go_enter Try.func24, Try.ntmps24
    go_wp2_with fail
    generalize w.alloc (.cells #[.int .i64 5, .int .i64 way, .int .i64 i, .int .i64 k, .slice A nl cp] 39) = W at *
    go_quiet (fail)
    go_wp2_with fail
    go_ret3
    exact ⟨rfl, Hal.out.drewN _⟩
theorem rdo_5yes (nb wb n cpn ln cq : Nat) (A1 : Option Addr) (way i k : Int) (A : Option Addr) (nl cp : Nat) (w : World) (hn : n ≤ 32) (hw0 : 0 ≤ way) (hw1 : way < n) (n0 : w.cell? ⟨nb, 0, none⟩ = some (.slice (some ⟨wb, 0, none⟩) n cpn))
    (n1 : w.cell? ⟨wb, way.toNat, none⟩ = some (.slice A1 ln cq)) (nf : w.frozen? ⟨wb, way.toNat, none⟩ = false) :
    Calls Try.prog 24 #[.pointer (some ⟨nb, 0, none⟩), actV 5 way i k (.slice A nl cp)] w fun e w' => e = .returned (.tuple #[.int .i64 0, .slice none 0 0, .int .i64 0]) ∧
      ∃ W, Only Non w W ∧ ∃ m, (W.setCell ⟨wb, way.toNat, none⟩ (.slice none 0 0)).drewN m = w' := by
  have hal := boxed_only w 5 way i k A nl cp
  have n0' := hal.cell n0 id
  have n1' := hal.cell n1 id
  have nf' := hal.free n1 id nf
  obtain ⟨b0, b1, b2, b3, b4⟩ := boxed_act w 5 way i k A nl cp
  have Hal := Lib.hid hal
  unfold actV
  unfold boxed at *
  clear hal n0 n1 nf
  go_enter Try.func24, Try.ntmps24
  go_wp2_with fail
  generalize w.alloc (.cells #[.int .i64 5, .int .i64 way, .int .i64 i, .int .i64 k, .slice A nl cp] 39) = W at *
  go_quiet (fail)
  go_wp2_with fail
  go_region
  go_wp2_with fail
  go_ret3
  exact ⟨rfl, W.drewN nq, Hal.out.drewN _, 1, rfl⟩
theorem rdo_no (nb base : Nat) (F H : Nat → Prop) (c : Cont) (kind way i k : Int) (A : Option Addr) (nl cp : Nat) (w : World) (h : NetIs 52 w base nb F H c) (hk0 : kind ≠ 0) (hk5 : kind ≠ 5) (hb : hasC c way i = false) :
    Calls Try.prog 24 #[.pointer (some ⟨nb, 0, none⟩), actV kind way i k (.slice A nl cp)] w fun e w' => e = .returned (.tuple #[.int .i64 0, .slice none 0 0, .int .i64 5]) ∧ Only Non w w' := by
  have hal := boxed_only w kind way i k A nl cp
  have HR := Lib.hid fun m => rhas_any nb base F H c way i _ (h.keep (hal.drewN m))
  rw [hb] at HR
  obtain ⟨hv, vs, rows, hA⟩ := h
  obtain ⟨An, cpn, _, n0, _, _⟩ := hA.head
  have hn : vs.length ≤ 32 := by rw [← hA.nc]; exact hA.c32
  generalize vs.length = n at *
  have n0' := hal.cell n0 id
  obtain ⟨b0, b1, b2, b3, b4⟩ := boxed_act w kind way i k A nl cp
  have Hal := Lib.hid hal
  unfold actV
  unfold boxed at *
  clear hal n0 hA hb
  have e0 : (kind == 0) = false := by simp [hk0]
  have e5 : (kind == 5) = false := by simp [hk5]
  clear hk0 hk5
  by_cases hw0 : 0 ≤ way
  · go_enter Try.func24, Try.ntmps24
    go_wp2_with fail
    generalize w.alloc (.cells #[.int .i64 kind, .int .i64 way, .int .i64 i, .int .i64 k, .slice A nl cp] 39) = W at *
    go_quiet (fail)
    go_wp2_with fail
    refine (HR.out _).mono ?_
    rintro e w' ⟨rfl, rfl⟩
    go_wp2_with fail
    go_ret3
    exact ⟨rfl, Hal.out.drewN _⟩
  · have hd : decide (0 ≤ way) = false := decide_eq_false hw0
    have hd2 : (0 ≤ way) = False := eq_false hw0
    go_enter Try.func24, Try.ntmps24
    go_wp2_with fail
    generalize w.alloc (.cells #[.int .i64 kind, .int .i64 way, .int .i64 i, .int .i64 k, .slice A nl cp] 39) = W at *
    go_quiet (fail)
    go_wp2_with fail
    refine (HR.out _).mono ?_
    rintro e w' ⟨rfl, rfl⟩
    go_wp2_with fail
    go_ret3
    exact ⟨rfl, Hal.out.drewN _⟩
theorem rdo_4no (nb base : Nat) (F H : Nat → Prop) (c : Cont) (way i k : Int) (A : Option Addr) (nl cp : Nat) (w : World) (h : NetIs 52 w base nb F H c) (hb : hasC c way i = true) (hbk : hasC c way k = false) :
    Calls Try.prog 24 #[.pointer (some ⟨nb, 0, none⟩), actV 4 way i k (.slice A nl cp)] w fun e w' => e = .returned (.tuple #[.int .i64 0, .slice none 0 0, .int .i64 5]) ∧ Only Non w w' := by
  have hal := boxed_only w 4 way i k A nl cp
  have HR := Lib.hid fun m => rhas_any nb base F H c way i _ (h.keep (hal.drewN m))
  have HRk := Lib.hid fun m => rhas_any nb base F H c way k _ (h.keep (hal.drewN m))
  rw [hb] at HR
  rw [hbk] at HRk
  obtain ⟨hw0, hw1⟩ := thereC_bd (hasC_there hb)
  obtain ⟨hv, vs, rows, hA⟩ := h
  obtain ⟨An, cpn, _, n0, _, _⟩ := hA.head
  rw [hA.nc] at hw1
  have hn : vs.length ≤ 32 := by rw [← hA.nc]; exact hA.c32
  generalize vs.length = n at *
  have n0' := hal.cell n0 id
  obtain ⟨b0, b1, b2, b3, b4⟩ := boxed_act w 4 way i k A nl cp
  have Hal := Lib.hid hal
  unfold actV
  unfold boxed at *
  clear hal n0 hA hb hbk
  go_enter Try.func24, Try.ntmps24
  go_wp2_with fail
  generalize w.alloc (.cells #[.int .i64 4, .int .i64 way, .int .i64 i, .int .i64 k, .slice A nl cp] 39) = W at *
  go_quiet (fail)
  go_wp2_with fail
  refine (HR.out _).mono ?_
  rintro e w' ⟨rfl, rfl⟩
  go_wp2_with fail
  refine (HRk.out _).mono ?_
  rintro e w' ⟨rfl, rfl⟩
  go_wp2_with fail
  go_ret3
  exact ⟨rfl, Hal.out.drewN _⟩
end
end Go.Proofs.Ytlagccfllnhgbaa
