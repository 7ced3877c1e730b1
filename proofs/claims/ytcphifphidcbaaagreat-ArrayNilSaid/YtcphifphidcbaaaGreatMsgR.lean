/- msg.Right: when a message is right. Printed by msgr.py. -/
import Derived.Test.YtcphifphidcbaaaGreatMsgC
import Derived.Test.YtcphifphidcbaaaGreatSet
import Derived.Laws.BitsAll
import Derived.Laws.BitsAllLaws
import Derived.BigQuiet
import Derived.Deep.CutRange
namespace Go.Proofs.YtcphifphidcbaaaGreat
open Go.RowKit
set_option linter.unusedVariables false
set_option linter.unusedSimpArgs false
theorem wraps_u64_64 (n : Int) (h₀ : 0 ≤ n) (h₁ : n < 2 ^ 64) : IntKind.u64.wrap n = n := by rw [IntKind.wrap_u64]; omega
theorem bit_and (x i : Nat) (hx : x < 18446744073709551616) : (bits .and .u64 ((x : Int) / 2 ^ i) 1 != 0) = x.testBit i := by
  have h1 : x / 2 ^ i < 2 ^ 64 := Nat.lt_of_le_of_lt (Nat.div_le_self _ _) hx
  have h := (bits_nat .u64 64 (by decide) wraps_u64_64 (x / 2 ^ i) 1 h1 (by decide)).1
  rw [show ((x : Int) / 2 ^ i) = ((x / 2 ^ i : Nat) : Int) from by push_cast; rfl]
  rw [show (1 : Int) = ((1 : Nat) : Int) from rfl, h, Nat.and_one_is_mod, Nat.testBit_eq_decide_div_mod_eq]
  rcases Nat.mod_two_eq_zero_or_one (x / 2 ^ i) with e | e <;> rw [e] <;> decide
theorem bit_or (x i : Nat) (hx : x < 18446744073709551616) (hi : i < 64) : bits .or .u64 x (2 ^ i) = ((x ||| 2 ^ i : Nat) : Int) := by
  have h := (bits_nat .u64 64 (by decide) wraps_u64_64 x (2 ^ i) hx (Nat.pow_lt_pow_right (by decide) hi)).2
  rw [← h]
  push_cast
  rfl
def bitsN (l : List Nat) : Nat := l.foldl (fun a x => a ||| 2 ^ x) 0
theorem bitsF_lt : ∀ (l : List Nat) (a : Nat), (∀ x ∈ l, x < 64) → a < 2 ^ 64 → l.foldl (fun a x => a ||| 2 ^ x) a < 2 ^ 64
  | [], a, _, h => h
  | x :: l, a, hl, h => bitsF_lt l _ (fun y hy => hl y (List.mem_cons_of_mem _ hy)) (Nat.or_lt_two_pow h (Nat.pow_lt_pow_right (by decide) (hl x List.mem_cons_self)))
theorem bitsN_step (l : List Nat) (k : Nat) (hk : k < l.length) : bitsN (l.take (k + 1)) = bitsN (l.take k) ||| 2 ^ l.getD k 0 := by
  unfold bitsN
  rw [List.take_add_one, List.getElem?_eq_getElem hk, List.foldl_append]
  simp [hk]
def BtRel (l : List Nat) (W : World) (acc i : Value) (wr : World) : Prop := ∃ k : Nat, k ≤ l.length ∧ i = .int .i64 k ∧ acc = .int .u64 (bitsN (l.take k) : Nat) ∧ W = wr
section
set_option maxHeartbeats 4000000
set_option maxRecDepth 100000
theorem bits_any (l : List Nat) (g : Nat) (w : World) (hl : ∀ x ∈ l, x < 64) (h20 : l.length ≤ 20) (hb : Box w g 3 (l.map fun x => Value.int .i64 (x : Nat)).toArray) :
    Calls Tryz.prog 158 #[.slice (some ⟨g, 0, none⟩) l.length l.length] w fun e w' => e = .returned (.int .u64 (bitsN l : Nat)) ∧ w = w' := by
  have HC := Lib.hid (show ∀ k, k < l.length → w.cell? ⟨g, k, none⟩ = some (.int .i64 (l.getD k 0 : Nat)) from fun k hk => hb.cellAt (by simp [hk]))
  have HLT := Lib.hid (show ∀ k, k < l.length → l.getD k 0 < 64 from fun k hk => hl _ (by simp [hk]))
  have HBN := Lib.hid (show ∀ k, bitsN (l.take k) < 18446744073709551616 from fun k => bitsF_lt _ 0 (fun x hx => hl x (List.mem_of_mem_take hx)) (by decide))
  have HFU := Lib.hid (show bitsN (l.take l.length) = bitsN l by rw [List.take_length])
  have HST := Lib.hid (bitsN_step l)
  clear hb hl
  go_enter Tryz.func158, Tryz.ntmps158
  go_wp2_with fail
  go_loopw [3, 8] (fun acc i wr => BtRel l w acc i wr) (fun _ i _ => l.length - (intOf i).toNat)
  case atStart => exact ⟨0, Nat.zero_le _, rfl, rfl, rfl⟩
  case round =>
    obtain ⟨k, hk, rfl, rfl, rfl⟩ := hrel
    by_cases hlt : k < l.length
    · have hltb : (k : Int) < l.length := by omega
      have hc := HC.out k hlt
      have hxl := HLT.out k hlt
      have hst := HST.out k hlt
      have hbn := HBN.out k
      have hbor := bit_or (bitsN (l.take k)) (l.getD k 0) hbn hxl
      generalize l.getD k 0 = x at *
      have hshl : IntKind.u64.wrap (2 ^ x) = 2 ^ x := wraps_u64_64 _ (by have : (0 : Int) ≤ ((2 ^ x : Nat) : Int) := Int.natCast_nonneg _; simpa using this) (by
        have : (2 : Nat) ^ x < 2 ^ 64 := Nat.pow_lt_pow_right (by decide) hxl
        have h2 : ((2 ^ x : Nat) : Int) < ((2 ^ 64 : Nat) : Int) := by omega
        simpa using h2)
      have hshl2 : (2 : Int) ^ x % 18446744073709551616 = 2 ^ x := by rw [← IntKind.wrap_u64]; exact hshl
      have HSt := Lib.hid hst
      clear hst
      generalize bitsN (l.take k) = acc at *
      have hw1 : IntKind.i64.wrap ((k : Int) + 1) = ((k + 1 : Nat) : Int) := by rw [IntKind.wrap_i64]; omega
      go_wp2_with fail
      exact ⟨⟨k + 1, hlt, by push_cast; rfl, by rw [HSt.out], rfl⟩, by simp [intOf]; omega⟩
    · have hk' : k = l.length := by omega
      subst hk'
      rw [HFU.out]
      go_wp2_with fail
      go_ret
      exact ⟨rfl, rfl⟩
theorem bits_new (w : World) (l : List Nat) (N : Nat) (cs : Array Value) (hl : ∀ x ∈ l, x < 64) (hN : bitsN l = N) (hcs : cs = (l.map fun x => Value.int .i64 (x : Nat)).toArray) (h20 : l.length ≤ 20 := by decide) :
    Calls Tryz.prog 158 #[.slice (some ⟨w.heap.size, 0, none⟩) l.length l.length] (w.alloc (.cells cs 3)) fun e w' => e = .returned (.int .u64 (N : Nat)) ∧ Only Non (w.alloc (.cells cs 3)) w' := by
  subst hcs hN
  refine (bits_any l w.heap.size _ hl h20 (Box.fresh w 3 _)).mono ?_
  rintro e w' ⟨rfl, rfl⟩
  exact ⟨rfl, Only.refl _ _⟩
def namedV : Array Value := #[.int .u64 0, .int .u64 116, .int .u64 1140, .int .u64 1120, .int .u64 160, .int .u64 1908, .int .u64 884, .int .u64 160, .int .u64 96, .int .u64 1150, .int .u64 1120, .int .u64 32, .int .u64 1312, .int .u64 830, .int .u64 32]
theorem namedV_one : namedV.all (·.oneCell') = true := by simp [namedV, Value.oneCell']
theorem named_any (w : World) : Calls Tryz.prog 121 #[] w fun e w' => e = .returned (.agg namedV) ∧ Only Non w w' := by
  have HB := Lib.hid (Box.fresh w 200 #[.int .u64 0, .int .u64 0, .int .u64 0, .int .u64 0, .int .u64 0, .int .u64 0, .int .u64 0, .int .u64 0, .int .u64 0, .int .u64 0, .int .u64 0, .int .u64 0, .int .u64 0, .int .u64 0, .int .u64 0])
  have HO := Lib.hid ((Only.refl Non w).alloc (.cells #[.int .u64 0, .int .u64 0, .int .u64 0, .int .u64 0, .int .u64 0, .int .u64 0, .int .u64 0, .int .u64 0, .int .u64 0, .int .u64 0, .int .u64 0, .int .u64 0, .int .u64 0, .int .u64 0, .int .u64 0] 200))
  go_enter Tryz.func121, Tryz.ntmps121
  go_upto_region 1 with fail
  change Code.wp _ _ _ _ (w.alloc (.cells #[.int .u64 0, .int .u64 0, .int .u64 0, .int .u64 0, .int .u64 0, .int .u64 0, .int .u64 0, .int .u64 0, .int .u64 0, .int .u64 0, .int .u64 0, .int .u64 0, .int .u64 0, .int .u64 0, .int .u64 0] 200))
  obtain ⟨nb, hnb⟩ : ∃ nb, nb = w.heap.size := ⟨_, rfl⟩
  have HNB := Lib.hid (show w.heap.size ≤ nb from Nat.le_of_eq hnb.symm)
  rw [← hnb] at HB ⊢
  clear hnb
  generalize w.alloc (.cells #[.int .u64 0, .int .u64 0, .int .u64 0, .int .u64 0, .int .u64 0, .int .u64 0, .int .u64 0, .int .u64 0, .int .u64 0, .int .u64 0, .int .u64 0, .int .u64 0, .int .u64 0, .int .u64 0, .int .u64 0] 200) = W at *
  go_wp2_with fail
  refine (bits_new W [2, 4, 5, 6] 116 #[.int .i64 2, .int .i64 4, .int .i64 5, .int .i64 6] (by decide) (by decide) rfl).mono ?_
  rintro e W1 ⟨rfl, ho⟩
  replace HB := Lib.hid (((Only.refl Non W).alloc _).trans ho |>.box HB.out id)
  replace HO := Lib.hid ((HO.out.alloc _).trans ho)
  clear ho
  go_wp2_with fail
  refine (bits_new W1 [2, 4, 5, 6, 10] 1140 #[.int .i64 2, .int .i64 4, .int .i64 5, .int .i64 6, .int .i64 10] (by decide) (by decide) rfl).mono ?_
  rintro e W2 ⟨rfl, ho⟩
  replace HB := Lib.hid (((Only.refl Non W1).alloc _).trans ho |>.box HB.out id)
  replace HO := Lib.hid ((HO.out.alloc _).trans ho)
  clear ho
  go_wp2_with fail
  refine (bits_new W2 [5, 6, 10] 1120 #[.int .i64 5, .int .i64 6, .int .i64 10] (by decide) (by decide) rfl).mono ?_
  rintro e W3 ⟨rfl, ho⟩
  replace HB := Lib.hid (((Only.refl Non W2).alloc _).trans ho |>.box HB.out id)
  replace HO := Lib.hid ((HO.out.alloc _).trans ho)
  clear ho
  go_wp2_with fail
  refine (bits_new W3 [5, 7] 160 #[.int .i64 5, .int .i64 7] (by decide) (by decide) rfl).mono ?_
  rintro e W4 ⟨rfl, ho⟩
  replace HB := Lib.hid (((Only.refl Non W3).alloc _).trans ho |>.box HB.out id)
  replace HO := Lib.hid ((HO.out.alloc _).trans ho)
  clear ho
  go_wp2_with fail
  refine (bits_new W4 [2, 4, 5, 6, 8, 9, 10] 1908 #[.int .i64 2, .int .i64 4, .int .i64 5, .int .i64 6, .int .i64 8, .int .i64 9, .int .i64 10] (by decide) (by decide) rfl).mono ?_
  rintro e W5 ⟨rfl, ho⟩
  replace HB := Lib.hid (((Only.refl Non W4).alloc _).trans ho |>.box HB.out id)
  replace HO := Lib.hid ((HO.out.alloc _).trans ho)
  clear ho
  go_wp2_with fail
  refine (bits_new W5 [2, 4, 5, 6, 8, 9] 884 #[.int .i64 2, .int .i64 4, .int .i64 5, .int .i64 6, .int .i64 8, .int .i64 9] (by decide) (by decide) rfl).mono ?_
  rintro e W6 ⟨rfl, ho⟩
  replace HB := Lib.hid (((Only.refl Non W5).alloc _).trans ho |>.box HB.out id)
  replace HO := Lib.hid ((HO.out.alloc _).trans ho)
  clear ho
  go_wp2_with fail
  refine (bits_new W6 [5, 7] 160 #[.int .i64 5, .int .i64 7] (by decide) (by decide) rfl).mono ?_
  rintro e W7 ⟨rfl, ho⟩
  replace HB := Lib.hid (((Only.refl Non W6).alloc _).trans ho |>.box HB.out id)
  replace HO := Lib.hid ((HO.out.alloc _).trans ho)
  clear ho
  go_wp2_with fail
  refine (bits_new W7 [5, 6] 96 #[.int .i64 5, .int .i64 6] (by decide) (by decide) rfl).mono ?_
  rintro e W8 ⟨rfl, ho⟩
  replace HB := Lib.hid (((Only.refl Non W7).alloc _).trans ho |>.box HB.out id)
  replace HO := Lib.hid ((HO.out.alloc _).trans ho)
  clear ho
  go_wp2_with fail
  refine (bits_new W8 [1, 2, 3, 4, 5, 6, 10] 1150 #[.int .i64 1, .int .i64 2, .int .i64 3, .int .i64 4, .int .i64 5, .int .i64 6, .int .i64 10] (by decide) (by decide) rfl).mono ?_
  rintro e W9 ⟨rfl, ho⟩
  replace HB := Lib.hid (((Only.refl Non W8).alloc _).trans ho |>.box HB.out id)
  replace HO := Lib.hid ((HO.out.alloc _).trans ho)
  clear ho
  go_wp2_with fail
  refine (bits_new W9 [5, 6, 10] 1120 #[.int .i64 5, .int .i64 6, .int .i64 10] (by decide) (by decide) rfl).mono ?_
  rintro e W10 ⟨rfl, ho⟩
  replace HB := Lib.hid (((Only.refl Non W9).alloc _).trans ho |>.box HB.out id)
  replace HO := Lib.hid ((HO.out.alloc _).trans ho)
  clear ho
  go_wp2_with fail
  refine (bits_new W10 [5] 32 #[.int .i64 5] (by decide) (by decide) rfl).mono ?_
  rintro e W11 ⟨rfl, ho⟩
  replace HB := Lib.hid (((Only.refl Non W10).alloc _).trans ho |>.box HB.out id)
  replace HO := Lib.hid ((HO.out.alloc _).trans ho)
  clear ho
  go_wp2_with fail
  refine (bits_new W11 [5, 8, 10] 1312 #[.int .i64 5, .int .i64 8, .int .i64 10] (by decide) (by decide) rfl).mono ?_
  rintro e W12 ⟨rfl, ho⟩
  replace HB := Lib.hid (((Only.refl Non W11).alloc _).trans ho |>.box HB.out id)
  replace HO := Lib.hid ((HO.out.alloc _).trans ho)
  clear ho
  go_wp2_with fail
  refine (bits_new W12 [1, 2, 3, 4, 5, 8, 9] 830 #[.int .i64 1, .int .i64 2, .int .i64 3, .int .i64 4, .int .i64 5, .int .i64 8, .int .i64 9] (by decide) (by decide) rfl).mono ?_
  rintro e W13 ⟨rfl, ho⟩
  replace HB := Lib.hid (((Only.refl Non W12).alloc _).trans ho |>.box HB.out id)
  replace HO := Lib.hid ((HO.out.alloc _).trans ho)
  clear ho
  go_wp2_with fail
  refine (bits_new W13 [5] 32 #[.int .i64 5] (by decide) (by decide) rfl).mono ?_
  rintro e W14 ⟨rfl, ho⟩
  replace HB := Lib.hid (((Only.refl Non W13).alloc _).trans ho |>.box HB.out id)
  replace HO := Lib.hid ((HO.out.alloc _).trans ho)
  clear ho
  go_wp2_with (refine wpList_store_row rfl 200 _ _ rfl nb namedV rfl rfl 200 _ HB.out (by kernel_rfl) rfl namedV_one ?_)
  (try simp only [Exit.inBlock, Exit.then])
  refine bodyPost_ret (results_cell_row rfl _ _ nb _ namedV (0, 0) _ rfl (HB.out.setRow' _) Tryz.underlying200 rfl (by kernel_rfl)) rfl ?_
  exact ⟨rfl, HO.out.setRow' (.inr HNB.out) _⟩
def msgW (k : Int) : Nat := [0, 116, 1140, 1120, 160, 1908, 884, 160, 96, 1150, 1120, 32, 1312, 830, 32].getD k.toNat 0
theorem kind_no (k : Int) (hk : ¬ (1 ≤ k ∧ k ≤ 14)) (w : World) : Calls Tryz.prog 78 #[.int .i64 k] w fun e w' => e = .returned (.int .u64 0) ∧ w = w' := by
  by_cases h1 : k < 1
  · clear hk
    go_enter Tryz.func78, Tryz.ntmps78
    go_wp2_with fail
    go_ret
    exact ⟨rfl, rfl⟩
  · have h2 : 14 < k := by omega
    clear hk
    go_enter Tryz.func78, Tryz.ntmps78
    go_wp2_with fail
    go_ret
    exact ⟨rfl, rfl⟩
theorem kind_yes (k : Int) (hk : 1 ≤ k ∧ k ≤ 14) (w : World) : Calls Tryz.prog 78 #[.int .i64 k] w fun e w' => e = .returned (.int .u64 (msgW k : Nat)) ∧ Only Non w w' := by
  have h1 : ¬ k < 1 := by omega
  have h2 : ¬ 14 < k := by omega
  have hidx := fun w => run_index_agg (P := Tryz.prog) w 200 138 15 namedV .i64 k (.int .u64 (msgW k : Nat)) Tryz.underlying200 (by kernel_rfl) (by kernel_rfl) (by omega) (by omega) (by
    obtain ⟨q, rfl⟩ := Int.eq_ofNat_of_zero_le (show 0 ≤ k by omega)
    rcases (show q = 1 ∨ q = 2 ∨ q = 3 ∨ q = 4 ∨ q = 5 ∨ q = 6 ∨ q = 7 ∨ q = 8 ∨ q = 9 ∨ q = 10 ∨ q = 11 ∨ q = 12 ∨ q = 13 ∨ q = 14 by omega) with rfl | rfl | rfl | rfl | rfl | rfl | rfl | rfl | rfl | rfl | rfl | rfl | rfl | rfl <;> rfl)
  have HN := Lib.hid (named_any w)
  clear hk
  generalize msgW k = N at *
  go_enter Tryz.func78, Tryz.ntmps78
  go_wp2_with (go_at_call 121; refine HN.out.mono ?_; rintro e W1 ⟨rfl, ho⟩)
  go_ret
  exact ⟨rfl, ho⟩
def bndF (f : Nat) : Int := [0, 3, 3, 1099511627776, 1099511627776, 31, 4, 1099511627776, 16].getD f 0
def okF (m : MsgA) (len : Nat) (f : Nat) : Bool := if f = 9 then true else if f = 10 then decide ((len : Int) ≤ 64) else decide (0 ≤ m.f f) && decide (m.f f ≤ bndF f)
def zeroF (m : MsgA) (len : Nat) (f : Nat) : Bool := if f = 9 then !m.g else if f = 10 then ((len : Int) == 0) else (m.f f == 0)
theorem spot_1 (p : Nat) (w : World) : Calls Tryz.prog 122 #[.pointer (some ⟨p, 0, none⟩), .int .i64 1] w fun e w' => e = .returned (.tuple #[.pointer (some ⟨p, 1, none⟩), .int .i64 3]) ∧ w = w' := by
  go_enter Tryz.func122, Tryz.ntmps122
  go_wp2_with fail
  go_ret2
  exact ⟨rfl, rfl⟩
theorem spot_2 (p : Nat) (w : World) : Calls Tryz.prog 122 #[.pointer (some ⟨p, 0, none⟩), .int .i64 2] w fun e w' => e = .returned (.tuple #[.pointer (some ⟨p, 2, none⟩), .int .i64 3]) ∧ w = w' := by
  go_enter Tryz.func122, Tryz.ntmps122
  go_wp2_with fail
  go_ret2
  exact ⟨rfl, rfl⟩
theorem spot_3 (p : Nat) (w : World) : Calls Tryz.prog 122 #[.pointer (some ⟨p, 0, none⟩), .int .i64 3] w fun e w' => e = .returned (.tuple #[.pointer (some ⟨p, 3, none⟩), .int .i64 1099511627776]) ∧ w = w' := by
  go_enter Tryz.func122, Tryz.ntmps122
  go_wp2_with fail
  go_ret2
  exact ⟨rfl, rfl⟩
theorem spot_4 (p : Nat) (w : World) : Calls Tryz.prog 122 #[.pointer (some ⟨p, 0, none⟩), .int .i64 4] w fun e w' => e = .returned (.tuple #[.pointer (some ⟨p, 4, none⟩), .int .i64 1099511627776]) ∧ w = w' := by
  go_enter Tryz.func122, Tryz.ntmps122
  go_wp2_with fail
  go_ret2
  exact ⟨rfl, rfl⟩
theorem spot_5 (p : Nat) (w : World) : Calls Tryz.prog 122 #[.pointer (some ⟨p, 0, none⟩), .int .i64 5] w fun e w' => e = .returned (.tuple #[.pointer (some ⟨p, 5, none⟩), .int .i64 31]) ∧ w = w' := by
  go_enter Tryz.func122, Tryz.ntmps122
  go_wp2_with fail
  go_ret2
  exact ⟨rfl, rfl⟩
theorem spot_6 (p : Nat) (w : World) : Calls Tryz.prog 122 #[.pointer (some ⟨p, 0, none⟩), .int .i64 6] w fun e w' => e = .returned (.tuple #[.pointer (some ⟨p, 6, none⟩), .int .i64 4]) ∧ w = w' := by
  go_enter Tryz.func122, Tryz.ntmps122
  go_wp2_with fail
  go_ret2
  exact ⟨rfl, rfl⟩
theorem spot_7 (p : Nat) (w : World) : Calls Tryz.prog 122 #[.pointer (some ⟨p, 0, none⟩), .int .i64 7] w fun e w' => e = .returned (.tuple #[.pointer (some ⟨p, 7, none⟩), .int .i64 1099511627776]) ∧ w = w' := by
  go_enter Tryz.func122, Tryz.ntmps122
  go_wp2_with fail
  go_ret2
  exact ⟨rfl, rfl⟩
theorem field_1 (p : Nat) (v : Int) (w : World) (hx : w.cell? ⟨p, 1, none⟩ = some (.int .i64 v)) : Calls Tryz.prog 79 #[.pointer (some ⟨p, 0, none⟩), .int .i64 1] w fun e w' => e = .returned (.tuple #[.bool (decide (0 ≤ v) && decide (v ≤ 3)), .bool (v == 0)]) ∧ ∃ n, w' = w.drewN n := by
  by_cases h0 : 0 ≤ v
  · have hd : decide (0 ≤ v) = true := decide_eq_true h0
    have HD := Lib.hid hd
    go_enter Tryz.func79, Tryz.ntmps79
    go_upto_region 10 with (go_at_call 122; refine (spot_1 p _).mono ?_; rintro e W1 ⟨rfl, rfl⟩)
    go_quiet (fail)
    go_wp2
    go_ret2
    exact ⟨by rw [HD.out, Bool.true_and]; rfl, nq, rfl⟩
  · have hd : decide (0 ≤ v) = false := decide_eq_false h0
    have HD := Lib.hid hd
    go_enter Tryz.func79, Tryz.ntmps79
    go_upto_region 10 with (go_at_call 122; refine (spot_1 p _).mono ?_; rintro e W1 ⟨rfl, rfl⟩)
    go_quiet (fail)
    go_wp2
    go_ret2
    exact ⟨by rw [HD.out, Bool.false_and]; rfl, nq, rfl⟩
theorem field_2 (p : Nat) (v : Int) (w : World) (hx : w.cell? ⟨p, 2, none⟩ = some (.int .i64 v)) : Calls Tryz.prog 79 #[.pointer (some ⟨p, 0, none⟩), .int .i64 2] w fun e w' => e = .returned (.tuple #[.bool (decide (0 ≤ v) && decide (v ≤ 3)), .bool (v == 0)]) ∧ ∃ n, w' = w.drewN n := by
  by_cases h0 : 0 ≤ v
  · have hd : decide (0 ≤ v) = true := decide_eq_true h0
    have HD := Lib.hid hd
    go_enter Tryz.func79, Tryz.ntmps79
    go_upto_region 10 with (go_at_call 122; refine (spot_2 p _).mono ?_; rintro e W1 ⟨rfl, rfl⟩)
    go_quiet (fail)
    go_wp2
    go_ret2
    exact ⟨by rw [HD.out, Bool.true_and]; rfl, nq, rfl⟩
  · have hd : decide (0 ≤ v) = false := decide_eq_false h0
    have HD := Lib.hid hd
    go_enter Tryz.func79, Tryz.ntmps79
    go_upto_region 10 with (go_at_call 122; refine (spot_2 p _).mono ?_; rintro e W1 ⟨rfl, rfl⟩)
    go_quiet (fail)
    go_wp2
    go_ret2
    exact ⟨by rw [HD.out, Bool.false_and]; rfl, nq, rfl⟩
theorem field_3 (p : Nat) (v : Int) (w : World) (hx : w.cell? ⟨p, 3, none⟩ = some (.int .i64 v)) : Calls Tryz.prog 79 #[.pointer (some ⟨p, 0, none⟩), .int .i64 3] w fun e w' => e = .returned (.tuple #[.bool (decide (0 ≤ v) && decide (v ≤ 1099511627776)), .bool (v == 0)]) ∧ ∃ n, w' = w.drewN n := by
  by_cases h0 : 0 ≤ v
  · have hd : decide (0 ≤ v) = true := decide_eq_true h0
    have HD := Lib.hid hd
    go_enter Tryz.func79, Tryz.ntmps79
    go_upto_region 10 with (go_at_call 122; refine (spot_3 p _).mono ?_; rintro e W1 ⟨rfl, rfl⟩)
    go_quiet (fail)
    go_wp2
    go_ret2
    exact ⟨by rw [HD.out, Bool.true_and]; rfl, nq, rfl⟩
  · have hd : decide (0 ≤ v) = false := decide_eq_false h0
    have HD := Lib.hid hd
    go_enter Tryz.func79, Tryz.ntmps79
    go_upto_region 10 with (go_at_call 122; refine (spot_3 p _).mono ?_; rintro e W1 ⟨rfl, rfl⟩)
    go_quiet (fail)
    go_wp2
    go_ret2
    exact ⟨by rw [HD.out, Bool.false_and]; rfl, nq, rfl⟩
theorem field_4 (p : Nat) (v : Int) (w : World) (hx : w.cell? ⟨p, 4, none⟩ = some (.int .i64 v)) : Calls Tryz.prog 79 #[.pointer (some ⟨p, 0, none⟩), .int .i64 4] w fun e w' => e = .returned (.tuple #[.bool (decide (0 ≤ v) && decide (v ≤ 1099511627776)), .bool (v == 0)]) ∧ ∃ n, w' = w.drewN n := by
  by_cases h0 : 0 ≤ v
  · have hd : decide (0 ≤ v) = true := decide_eq_true h0
    have HD := Lib.hid hd
    go_enter Tryz.func79, Tryz.ntmps79
    go_upto_region 10 with (go_at_call 122; refine (spot_4 p _).mono ?_; rintro e W1 ⟨rfl, rfl⟩)
    go_quiet (fail)
    go_wp2
    go_ret2
    exact ⟨by rw [HD.out, Bool.true_and]; rfl, nq, rfl⟩
  · have hd : decide (0 ≤ v) = false := decide_eq_false h0
    have HD := Lib.hid hd
    go_enter Tryz.func79, Tryz.ntmps79
    go_upto_region 10 with (go_at_call 122; refine (spot_4 p _).mono ?_; rintro e W1 ⟨rfl, rfl⟩)
    go_quiet (fail)
    go_wp2
    go_ret2
    exact ⟨by rw [HD.out, Bool.false_and]; rfl, nq, rfl⟩
theorem field_5 (p : Nat) (v : Int) (w : World) (hx : w.cell? ⟨p, 5, none⟩ = some (.int .i64 v)) : Calls Tryz.prog 79 #[.pointer (some ⟨p, 0, none⟩), .int .i64 5] w fun e w' => e = .returned (.tuple #[.bool (decide (0 ≤ v) && decide (v ≤ 31)), .bool (v == 0)]) ∧ ∃ n, w' = w.drewN n := by
  by_cases h0 : 0 ≤ v
  · have hd : decide (0 ≤ v) = true := decide_eq_true h0
    have HD := Lib.hid hd
    go_enter Tryz.func79, Tryz.ntmps79
    go_upto_region 10 with (go_at_call 122; refine (spot_5 p _).mono ?_; rintro e W1 ⟨rfl, rfl⟩)
    go_quiet (fail)
    go_wp2
    go_ret2
    exact ⟨by rw [HD.out, Bool.true_and]; rfl, nq, rfl⟩
  · have hd : decide (0 ≤ v) = false := decide_eq_false h0
    have HD := Lib.hid hd
    go_enter Tryz.func79, Tryz.ntmps79
    go_upto_region 10 with (go_at_call 122; refine (spot_5 p _).mono ?_; rintro e W1 ⟨rfl, rfl⟩)
    go_quiet (fail)
    go_wp2
    go_ret2
    exact ⟨by rw [HD.out, Bool.false_and]; rfl, nq, rfl⟩
theorem field_6 (p : Nat) (v : Int) (w : World) (hx : w.cell? ⟨p, 6, none⟩ = some (.int .i64 v)) : Calls Tryz.prog 79 #[.pointer (some ⟨p, 0, none⟩), .int .i64 6] w fun e w' => e = .returned (.tuple #[.bool (decide (0 ≤ v) && decide (v ≤ 4)), .bool (v == 0)]) ∧ ∃ n, w' = w.drewN n := by
  by_cases h0 : 0 ≤ v
  · have hd : decide (0 ≤ v) = true := decide_eq_true h0
    have HD := Lib.hid hd
    go_enter Tryz.func79, Tryz.ntmps79
    go_upto_region 10 with (go_at_call 122; refine (spot_6 p _).mono ?_; rintro e W1 ⟨rfl, rfl⟩)
    go_quiet (fail)
    go_wp2
    go_ret2
    exact ⟨by rw [HD.out, Bool.true_and]; rfl, nq, rfl⟩
  · have hd : decide (0 ≤ v) = false := decide_eq_false h0
    have HD := Lib.hid hd
    go_enter Tryz.func79, Tryz.ntmps79
    go_upto_region 10 with (go_at_call 122; refine (spot_6 p _).mono ?_; rintro e W1 ⟨rfl, rfl⟩)
    go_quiet (fail)
    go_wp2
    go_ret2
    exact ⟨by rw [HD.out, Bool.false_and]; rfl, nq, rfl⟩
theorem field_7 (p : Nat) (v : Int) (w : World) (hx : w.cell? ⟨p, 7, none⟩ = some (.int .i64 v)) : Calls Tryz.prog 79 #[.pointer (some ⟨p, 0, none⟩), .int .i64 7] w fun e w' => e = .returned (.tuple #[.bool (decide (0 ≤ v) && decide (v ≤ 1099511627776)), .bool (v == 0)]) ∧ ∃ n, w' = w.drewN n := by
  by_cases h0 : 0 ≤ v
  · have hd : decide (0 ≤ v) = true := decide_eq_true h0
    have HD := Lib.hid hd
    go_enter Tryz.func79, Tryz.ntmps79
    go_upto_region 10 with (go_at_call 122; refine (spot_7 p _).mono ?_; rintro e W1 ⟨rfl, rfl⟩)
    go_quiet (fail)
    go_wp2
    go_ret2
    exact ⟨by rw [HD.out, Bool.true_and]; rfl, nq, rfl⟩
  · have hd : decide (0 ≤ v) = false := decide_eq_false h0
    have HD := Lib.hid hd
    go_enter Tryz.func79, Tryz.ntmps79
    go_upto_region 10 with (go_at_call 122; refine (spot_7 p _).mono ?_; rintro e W1 ⟨rfl, rfl⟩)
    go_quiet (fail)
    go_wp2
    go_ret2
    exact ⟨by rw [HD.out, Bool.false_and]; rfl, nq, rfl⟩
theorem field_8 (p : Nat) (v : Int) (w : World) (hx : w.cell? ⟨p, 8, none⟩ = some (.int .i64 v)) : Calls Tryz.prog 79 #[.pointer (some ⟨p, 0, none⟩), .int .i64 8] w fun e w' => e = .returned (.tuple #[.bool (decide (0 ≤ v) && decide (v ≤ 16)), .bool (v == 0)]) ∧ ∃ n, w' = w.drewN n := by
  by_cases h0 : 0 ≤ v
  · have hd : decide (0 ≤ v) = true := decide_eq_true h0
    have HD := Lib.hid hd
    go_enter Tryz.func79, Tryz.ntmps79
    go_wp2_with fail
    go_ret2
    exact ⟨by first | rfl | (rw [HD.out, Bool.true_and]; rfl), 0, rfl⟩
  · have hd : decide (0 ≤ v) = false := decide_eq_false h0
    have HD := Lib.hid hd
    go_enter Tryz.func79, Tryz.ntmps79
    go_wp2_with fail
    go_ret2
    exact ⟨by first | rfl | (rw [HD.out, Bool.false_and]; rfl), 0, rfl⟩
theorem field_9 (p : Nat) (g : Bool) (w : World) (hx : w.cell? ⟨p, 9, none⟩ = some (.bool g)) : Calls Tryz.prog 79 #[.pointer (some ⟨p, 0, none⟩), .int .i64 9] w fun e w' => e = .returned (.tuple #[.bool true, .bool (!g)]) ∧ ∃ n, w' = w.drewN n := by
  go_enter Tryz.func79, Tryz.ntmps79
  go_upto_region 6 with fail
  go_quiet (fail)
  go_wp2
  go_ret2
  exact ⟨rfl, nq, rfl⟩
theorem field_10 (p : Nat) (A : Option Addr) (n c : Nat) (w : World) (hx : w.cell? ⟨p, 10, none⟩ = some (.slice A n c)) : Calls Tryz.prog 79 #[.pointer (some ⟨p, 0, none⟩), .int .i64 10] w fun e w' => e = .returned (.tuple #[.bool (decide ((n : Int) ≤ 64)), .bool ((n : Int) == 0)]) ∧ ∃ n, w' = w.drewN n := by
  go_enter Tryz.func79, Tryz.ntmps79
  go_upto_region 8 with fail
  go_quiet (fail)
  go_wp2
  go_ret2
  exact ⟨rfl, nq, rfl⟩
theorem field_any (f : Nat) (p : Nat) (m : MsgA) (A : Option Addr) (n c : Nat) (w : World) (h1 : 1 ≤ f) (h10 : f ≤ 10) (hb : Box w p 25 (msgC m (.slice A n c))) :
    Calls Tryz.prog 79 #[.pointer (some ⟨p, 0, none⟩), .int .i64 f] w fun e w' => e = .returned (.tuple #[.bool (okF m n f), .bool (zeroF m n f)]) ∧ ∃ n, w' = w.drewN n := by
  rcases (show f = 1 ∨ f = 2 ∨ f = 3 ∨ f = 4 ∨ f = 5 ∨ f = 6 ∨ f = 7 ∨ f = 8 ∨ f = 9 ∨ f = 10 by omega) with rfl | rfl | rfl | rfl | rfl | rfl | rfl | rfl | rfl | rfl
  · exact field_1 p (m.f 1) w (hb.cellAt rfl)
  · exact field_2 p (m.f 2) w (hb.cellAt rfl)
  · exact field_3 p (m.f 3) w (hb.cellAt rfl)
  · exact field_4 p (m.f 4) w (hb.cellAt rfl)
  · exact field_5 p (m.f 5) w (hb.cellAt rfl)
  · exact field_6 p (m.f 6) w (hb.cellAt rfl)
  · exact field_7 p (m.f 7) w (hb.cellAt rfl)
  · exact field_8 p (m.f 8) w (hb.cellAt rfl)
  · exact field_9 p m.g w (hb.cellAt rfl)
  · exact field_10 p A n c w (hb.cellAt rfl)
def goodF (m : MsgA) (n f : Nat) : Bool := okF m n f && ((msgW (m.f 0)).testBit f || zeroF m n f)
def msgB (m : MsgA) (n : Nat) : Bool := decide (1 ≤ m.f 0 ∧ m.f 0 ≤ 14) && (List.range 10).all fun i => goodF m n (i + 1)
theorem msgB_kind {m : MsgA} {n : Nat} (h : ¬ (1 ≤ m.f 0 ∧ m.f 0 ≤ 14)) : msgB m n = false := by unfold msgB; rw [decide_eq_false h]; rfl
theorem msgB_no {m : MsgA} {n f : Nat} (h1 : 1 ≤ f) (h2 : f ≤ 10) (h : goodF m n f = false) : msgB m n = false := by
  unfold msgB
  rw [Bool.and_eq_false_iff]
  right
  rw [List.all_eq_false]
  exact ⟨f - 1, List.mem_range.2 (by omega), by rw [show f - 1 + 1 = f by omega, h]; decide⟩
theorem msgB_yes {m : MsgA} {n : Nat} (hk : 1 ≤ m.f 0 ∧ m.f 0 ≤ 14) (h : ∀ f, 1 ≤ f → f < 11 → goodF m n f = true) : msgB m n = true := by
  unfold msgB
  rw [decide_eq_true hk, Bool.true_and, List.all_eq_true]
  exact fun i hi => h (i + 1) (by omega) (by have := List.mem_range.1 hi; omega)
theorem msgW_lt (k : Int) (hk : 1 ≤ k ∧ k ≤ 14) : 0 < msgW k ∧ msgW k < 2048 := by
  obtain ⟨q, rfl⟩ := Int.eq_ofNat_of_zero_le (show 0 ≤ k by omega)
  rcases (show q = 1 ∨ q = 2 ∨ q = 3 ∨ q = 4 ∨ q = 5 ∨ q = 6 ∨ q = 7 ∨ q = 8 ∨ q = 9 ∨ q = 10 ∨ q = 11 ∨ q = 12 ∨ q = 13 ∨ q = 14 by omega) with rfl | rfl | rfl | rfl | rfl | rfl | rfl | rfl | rfl | rfl | rfl | rfl | rfl | rfl <;> decide
theorem bit_val (x i : Nat) (hx : x < 18446744073709551616) : bits .and .u64 ((x : Int) / 2 ^ i) 1 = if x.testBit i = true then 1 else 0 := by
  have h1 : x / 2 ^ i < 2 ^ 64 := Nat.lt_of_le_of_lt (Nat.div_le_self _ _) hx
  have h := (bits_nat .u64 64 (by decide) wraps_u64_64 (x / 2 ^ i) 1 h1 (by decide)).1
  rw [show ((x : Int) / 2 ^ i) = ((x / 2 ^ i : Nat) : Int) from by push_cast; rfl]
  rw [show (1 : Int) = ((1 : Nat) : Int) from rfl, h, Nat.and_one_is_mod, Nat.testBit_eq_decide_div_mod_eq]
  rcases Nat.mod_two_eq_zero_or_one (x / 2 ^ i) with e | e <;> rw [e] <;> decide
def MrRel (m : MsgA) (n : Nat) (d : Value) (p : Nat) (w : World) (i : Value) (wr : World) : Prop :=
  ∃ k : Nat, 1 ≤ k ∧ k ≤ 11 ∧ i = .int .i64 k ∧ (∀ f, 1 ≤ f → f < k → goodF m n f = true) ∧ Box wr p 25 (msgC m d) ∧ Only Non w wr
theorem msg_right (m : MsgA) (A : Option Addr) (n c : Nat) (w : World) : Calls Tryz.prog 42 #[.agg (msgC m (.slice A n c))] w fun e w' => e = .returned (.bool (msgB m n)) ∧ Only Non w w' := by
  have HB := Lib.hid (Box.fresh w 25 (msgC m (.slice A n c)))
  have HO := Lib.hid ((Only.refl Non w).alloc (.cells (msgC m (.slice A n c)) 25))
  go_enter Tryz.func42, Tryz.ntmps42
  go_upto_region 1 with fail
  change Code.wp _ _ _ _ (w.alloc (.cells (msgC m (.slice A n c)) 25))
  generalize w.alloc (.cells (msgC m (.slice A n c)) 25) = W at *
  generalize w.heap.size = p at *
  have x0 : W.cell? ⟨p, 0, none⟩ = some (.int .i64 (m.f 0)) := HB.out.cellAt rfl
  by_cases hk : 1 ≤ m.f 0 ∧ m.f 0 ≤ 14
  · have HK := Lib.hid hk
    have HF := Lib.hid (kind_yes (m.f 0) hk W)
    have hw := msgW_lt (m.f 0) hk
    clear hk
    obtain ⟨N, hN⟩ : ∃ N, N = msgW (m.f 0) := ⟨_, rfl⟩
    rw [← hN] at HF hw
    have HNN := Lib.hid hN
    have hn0 : ((N : Int) == 0) = false := by simp; omega
    have HW := Lib.hid hw
    clear hN hw
    go_upto_region 4 with (go_at_call 78; refine HF.out.mono ?_; rintro e W1 ⟨rfl, ho1⟩)
    have HB1 := Lib.hid (ho1.box HB.out id)
    have HO1 := Lib.hid (HO.out.trans ho1)
    clear ho1 x0 HF HB HO hn0
    go_wp2_with fail
    go_loopw [4] (fun i wr => MrRel m n (.slice A n c) p w i wr) (fun i _ => 11 - (intOf i).toNat)
    case atStart => exact ⟨1, Nat.le_refl _, by decide, rfl, fun f h1 h2 => by omega, HB1.out, HO1.out⟩
    case round =>
      obtain ⟨k, hk1, hk11, rfl, hg, hb, ho⟩ := hrel
      have HG := Lib.hid hg
      have HBR := Lib.hid hb
      have HOR := Lib.hid ho
      clear hg hb ho
      by_cases hlt : k ≤ 10
      · have hltb : (k : Int) ≤ 10 := by omega
        have HFA := Lib.hid (field_any k p m A n c wr hk1 hlt HBR.out)
        have HGK := Lib.hid (show goodF m n k = (okF m n k && (N.testBit k || zeroF m n k)) by unfold goodF; rw [HNN.out])
        have hbv := bit_val N k (by have := HW.out; omega)
        have hw1 : IntKind.i64.wrap ((k : Int) + 1) = ((k + 1 : Nat) : Int) := by rw [IntKind.wrap_i64]; omega
        have hk63 : k < 64 := by omega
        generalize okF m n k = ok at *
        generalize zeroF m n k = z at *
        generalize N.testBit k = t at *
        go_upto_region 8 with (go_at_call 79; refine HFA.out.mono ?_; rintro e W2 ⟨rfl, q, rfl⟩)
        clear HFA
        cases ok with
        | false =>
          go_wp2_with fail
          go_ret
          exact ⟨by rw [msgB_no hk1 hlt (by rw [HGK.out]; rfl)]; rfl, HOR.out.drewN q⟩
        | true =>
          cases t with
          | true =>
            rw [if_pos rfl] at hbv
            go_wp2_with fail
            refine ⟨⟨k + 1, by omega, by omega, by push_cast; rfl, fun f h1 h2 => ?_, HBR.out.drewN q, HOR.out.drewN q⟩, by simp [intOf]; omega⟩
            by_cases e : f = k
            · subst e; rw [HGK.out]; rfl
            · exact HG.out f h1 (by omega)
          | false =>
            rw [if_neg (by decide)] at hbv
            cases z with
            | true =>
              go_wp2_with fail
              refine ⟨⟨k + 1, by omega, by omega, by push_cast; rfl, fun f h1 h2 => ?_, HBR.out.drewN q, HOR.out.drewN q⟩, by simp [intOf]; omega⟩
              by_cases e : f = k
              · subst e; rw [HGK.out]; rfl
              · exact HG.out f h1 (by omega)
            | false =>
              go_wp2_with fail
              go_ret
              exact ⟨by rw [msgB_no hk1 hlt (by rw [HGK.out]; rfl)]; rfl, HOR.out.drewN q⟩
      · have hk11' : k = 11 := by omega
        subst hk11'
        have hr := msgB_yes HK.out HG.out
        have HR := Lib.hid hr
        clear hr hlt hk1 hk11
        go_wp2_with fail
        go_ret
        exact ⟨by rw [HR.out]; rfl, HOR.out⟩
  · have HF := Lib.hid (kind_no (m.f 0) hk W)
    have HR := Lib.hid (msgB_kind (n := n) hk)
    clear hk
    go_wp2_with (go_at_call 78; refine HF.out.mono ?_; rintro e W1 ⟨rfl, rfl⟩)
    go_ret
    exact ⟨by rw [HR.out]; rfl, HO.out⟩
end
end Go.Proofs.YtcphifphidcbaaaGreat
