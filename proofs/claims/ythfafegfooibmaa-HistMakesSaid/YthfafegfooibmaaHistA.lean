/- Operations in memory; what a search has met; the small functions. -/
import Derived.Test.YthfafegfooibmaaHistW
import Derived.Test.YthfafegfooibmaaHistB
import Derived.Test.YthfafegfooibmaaRow
import Derived.Maps.Keyed
import Derived.Maps.OwnOps
import Derived.DeepKeys4
import Derived.Carry
import Derived.Laws.BitsLemmas
import Derived.Laws.Bits64
namespace Go.Proofs.Ythfafegfooibmaa
open Go.RowKit Go.ChangeShapes Go.WideShapes
set_option linter.unusedVariables false
set_option linter.unusedSimpArgs false
def doneC (o : DoneR) (d : Value) : Array Value := #[.int .i64 o.client, .int .i64 o.slot, .int .i64 o.op, .bool o.write, .int .i64 o.block, d, .int .i64 o.code, .int .i64 o.fr, .int .i64 o.to, .bool o.cut]
abbrev doneV (o : DoneR) (d : Value) : Value := .agg (doneC o d)
/-- operations, one behind the other, from A on -/
structure DonesAt (w : World) (A : Option Addr) (n c : Nat) (l : List DoneR) : Prop where
  len : n = l.length
  cap : n ≤ c
  max : c ≤ maxLen
  at_ : ∀ i, i < l.length → ∃ g o dA dc, A = some ⟨g, o, none⟩ ∧ g < w.heap.size ∧ (∀ j v, (doneC (l.getD i default) (.slice dA (l.getD i default).data.length dc))[j]? = some v → w.cell? ⟨g, o + i * 10 + j, none⟩ = some v) ∧
    Byt w (.slice dA (l.getD i default).data.length dc) (l.getD i default).data
theorem DonesAt.only {S : Nat → Prop} {w w' : World} {A : Option Addr} {n c : Nat} {l : List DoneR} (h : DonesAt w A n c l) (ho : Only S w w') (hA : 0 < l.length → ∀ g o, A = some ⟨g, o, none⟩ → ¬ S g)
    (hD : ∀ i, i < l.length → ∀ g o dA dc, A = some ⟨g, o, none⟩ → w.cell? ⟨g, o + i * 10 + 5, none⟩ = some (.slice dA (l.getD i default).data.length dc) → 0 < (l.getD i default).data.length → ∀ k, ownB (.slice dA (l.getD i default).data.length dc) k → k < w.heap.size → ¬ S k) : DonesAt w' A n c l :=
  ⟨h.len, h.cap, h.max, fun i hi => by
    obtain ⟨g, o, dA, dc, e, hg, hc, hb⟩ := h.at_ i hi
    exact ⟨g, o, dA, dc, e, Nat.lt_of_lt_of_le hg ho.size, fun j v hv => ho.cell (hc j v hv) (hA (by omega) g o e), hb.keep ho (fun h0 k hk hkw => hD i hi g o dA dc e (hc 5 _ rfl) h0 k hk hkw)⟩⟩
theorem DonesAt.keep {w w' : World} {A : Option Addr} {n c : Nat} {l : List DoneR} (h : DonesAt w A n c l) (ho : Only Non w w') : DonesAt w' A n c l :=
  h.only ho (fun _ _ _ _ h => h) (fun _ _ _ _ _ _ _ _ _ _ _ _ h => h)
/-- the ten cells of one -/
def TenAt (w : World) (g b : Nat) (o : DoneR) (d : Value) : Prop :=
  w.cell? ⟨g, b, none⟩ = some (.int .i64 o.client) ∧ w.cell? ⟨g, b + 1, none⟩ = some (.int .i64 o.slot) ∧ w.cell? ⟨g, b + 2, none⟩ = some (.int .i64 o.op) ∧ w.cell? ⟨g, b + 3, none⟩ = some (.bool o.write) ∧ w.cell? ⟨g, b + 4, none⟩ = some (.int .i64 o.block) ∧
  w.cell? ⟨g, b + 5, none⟩ = some d ∧ w.cell? ⟨g, b + 6, none⟩ = some (.int .i64 o.code) ∧ w.cell? ⟨g, b + 7, none⟩ = some (.int .i64 o.fr) ∧ w.cell? ⟨g, b + 8, none⟩ = some (.int .i64 o.to) ∧ w.cell? ⟨g, b + 9, none⟩ = some (.bool o.cut)
theorem tenAt {w : World} {g b : Nat} {o : DoneR} {d : Value} (h : ∀ j v, (doneC o d)[j]? = some v → w.cell? ⟨g, b + j, none⟩ = some v) : TenAt w g b o d :=
  ⟨h 0 _ rfl, h 1 _ rfl, h 2 _ rfl, h 3 _ rfl, h 4 _ rfl, h 5 _ rfl, h 6 _ rfl, h 7 _ rfl, h 8 _ rfl, h 9 _ rfl⟩
theorem Box.ten {w : World} {g : Nat} {t : TypeId} {o : DoneR} {d : Value} (h : Box w g t (doneC o d)) : TenAt w g 0 o d := tenAt fun j v hv => by rw [Nat.zero_add]; exact h.cellAt hv
/-! the keys of what a search has met -/
def stV (x : StD) : Value := .agg #[.int .u64 x.1, .int .i64 x.2]
def StP (x : StD) : Prop := x.1 < 18446744073709551616 ∧ -9223372036854775808 ≤ x.2 ∧ x.2 ≤ 9223372036854775807
theorem stV_inj {x y : StD} (h : stV x = stV y) : x = y := by
  obtain ⟨a, b⟩ := x
  obtain ⟨c, d⟩ := y
  simp only [stV, Value.agg.injEq, Array.mk.injEq, List.cons.injEq, Value.int.injEq, true_and, and_true] at h
  obtain ⟨h1, h2⟩ := h
  have : a = c := by omega
  rw [this, h2]
theorem row48 : (48 : TypeId) < Try.prog.types.size := of_decide_eq_true (by kernel_rfl)
theorem wide48 : (match Try.prog.underlying 48 with | some (.array _ _) | some (.struct _) => true | _ => false) = true := by rw [Try.underlying48]
theorem law48 : Maps.Keyed Try.prog 48 := Maps.Keyed.of_law (deep_law_laid laidOut (m := 2) (by omega) row48 (by kernel_rfl) wide48)
theorem key48 {x : StD} (h : StP x) : ∃ l, keyOf Try.prog 48 (stV x) = some l := by
  obtain ⟨h1, h2, h3⟩ := h
  refine ⟨.string (keyBytes [.int .u64 x.1, .int .i64 x.2]), ?_⟩
  have hk : Try.prog.keyType 48 = true := by kernel_rfl
  have hc : Try.prog.cellsOf 48 = 2 := by kernel_rfl
  obtain ⟨m, hm⟩ : ∃ m, Try.prog.types.size = m + 1 := ⟨Try.prog.types.size - 1, (Nat.succ_pred_eq_of_pos (Nat.lt_of_le_of_lt (Nat.zero_le _) row48)).symm⟩
  unfold keyOf
  rw [Try.underlying48]
  dsimp only
  rw [if_pos (by simp [hk, stV, Value.formed, Try.underlying48, hc]), hm]
  unfold Program.keyLits
  rw [Try.underlying48]
  dsimp only [stV, Value.cells]
  rw [if_pos ⟨by rw [hc]; rfl, by kernel_rfl⟩]
  have hc1 : Try.prog.cellsOf 46 = 1 := by kernel_rfl
  have hc2 : Try.prog.cellsOf 3 = 1 := by kernel_rfl
  simp [Program.keyLits, hc1, hc2, Try.underlying46, Try.underlying3, Lit.wf, IntKind.min, IntKind.max, IntKind.signed, IntKind.bits]
  rw [if_pos (by omega), if_pos (by omega)]
  rfl
/-- a map whose keys are these -/
def Met (w : World) (mb : Nat) (m : List StD) : Prop :=
  ∃ es clock, w.heap[mb]? = some (.map es clock) ∧ (∀ e ∈ es.toList, ∃ y ∈ m, StP y ∧ e.key = stV y ∧ e.val = .bool true) ∧ ∀ y ∈ m, ∃ e ∈ es.toList, e.key = stV y
theorem Met.lt {w : World} {mb : Nat} {m : List StD} (h : Met w mb m) : mb < w.heap.size := by
  obtain ⟨es, clock, hb, _⟩ := h
  exact (Array.getElem?_eq_some_iff.1 hb).1
theorem Met.only {S : Nat → Prop} {w w' : World} {mb : Nat} {m : List StD} (h : Met w mb m) (ho : Only S w w') (hn : ¬ S mb) : Met w' mb m := by
  obtain ⟨es, clock, hb, h1, h2⟩ := h
  exact ⟨es, clock, (ho.block mb (Array.getElem?_eq_some_iff.1 hb).1 hn).trans hb, h1, h2⟩
theorem Met.ne {w : World} {mb g : Nat} {m : List StD} {t : TypeId} {cs : Array Value} (h : Met w mb m) (hb : Box w g t cs) : g ≠ mb := by
  rintro rfl
  obtain ⟨es, clock, h1, _⟩ := h
  unfold Box at hb
  rw [h1] at hb
  cases hb
theorem Met.nil (w : World) : Met (w.alloc (.map #[] 0)) w.heap.size [] :=
  ⟨#[], 0, heap_alloc_new w _, fun e he => by simp at he, fun y hy => by cases hy⟩
theorem run_look {w : World} {mb : Nat} {m : List StD} (h : Met w mb m) {x : StD} (hx : StP x) : (Instr.lookup 40 (.map (some mb)) (stV x) false).run Try.prog w = .ok (.bool (decide (x ∈ m))) w := by
  obtain ⟨es, clock, hb, h1, h2⟩ := h
  obtain ⟨l, hl⟩ := key48 hx
  have hz : (zeroValue 4).run Try.prog w = .ok (.bool false) w := by kernel_rfl
  have hck := law48.check w es.isEmpty hl
  rcases law48.find w hl es.toList (fun e he => by obtain ⟨y, _, hp, e1, _⟩ := h1 e he; rw [e1]; exact key48 hp) with ⟨hf, hno⟩ | ⟨j, e, hf, hj, he⟩
  · have hnm : ¬ x ∈ m := fun hm => by
      obtain ⟨e, he, e1⟩ := h2 x hm
      exact hno e he e1
    simp [Instr.lookup, run_underlying Try.underlying40, MapKept.run_getObj_map hb, hck, hf, hz, Result.andThen, hnm]
  · have hmem : e ∈ es.toList := List.mem_of_getElem? hj
    obtain ⟨y, hy, _, e1, e2⟩ := h1 e hmem
    have hyx : y = x := stV_inj (e1.symm.trans he)
    subst hyx
    simp [Instr.lookup, run_underlying Try.underlying40, MapKept.run_getObj_map hb, hck, hf, Result.andThen, hy, e2]
theorem run_put {w : World} {mb : Nat} {m : List StD} (h : Met w mb m) {x : StD} (hx : StP x) (hn : ¬ x ∈ m) :
    ∃ w', (Instr.mapUpdate 40 (.map (some mb)) (stV x) (.bool true)).run Try.prog w = .ok () w' ∧ Met w' mb (x :: m) ∧ Only (Just mb) w w' := by
  obtain ⟨es, clock, hb, h1, h2⟩ := h
  obtain ⟨l, hl⟩ := key48 hx
  have hck := law48.check w false hl
  have hlt := (Array.getElem?_eq_some_iff.1 hb).1
  rcases law48.find w hl es.toList (fun e he => by obtain ⟨y, _, hp, e1, _⟩ := h1 e he; rw [e1]; exact key48 hp) with ⟨hf, hno⟩ | ⟨j, e, hf, hj, he⟩
  · refine ⟨{ w with heap := w.heap.setIfInBounds mb (.map (es.push { key := stV x, val := .bool true, born := clock }) (clock + 1)) }, ?_, ?_, ?_⟩
    · simp [Instr.mapUpdate, run_underlying Try.underlying40, MapKept.run_getObj_map hb, hck, hf, MapKept.run_setObj_map _ hb, Result.andThen]
    · refine ⟨es.push { key := stV x, val := .bool true, born := clock }, clock + 1, by simp [hlt], fun e he => ?_, fun y hy => ?_⟩
      · simp only [Array.toList_push, List.mem_append, List.mem_singleton] at he
        rcases he with he | rfl
        · obtain ⟨y, hy, r⟩ := h1 e he
          exact ⟨y, List.mem_cons_of_mem _ hy, r⟩
        · exact ⟨x, List.mem_cons_self .., hx, rfl, rfl⟩
      · simp only [Array.toList_push, List.mem_append, List.mem_singleton]
        rcases List.mem_cons.1 hy with rfl | hy
        · exact ⟨_, .inr rfl, rfl⟩
        · obtain ⟨e, he, r⟩ := h2 y hy
          exact ⟨e, .inl he, r⟩
    · exact ⟨rfl, rfl, rfl, by simp, fun k hk hne => by
        have : mb ≠ k := fun e => hne (show k = mb from e.symm)
        simp [this]⟩
  · obtain ⟨y, hy, _, e1, _⟩ := h1 e (List.mem_of_getElem? hj)
    have hyx : y = x := stV_inj (e1.symm.trans he)
    exact absurd (hyx ▸ hy) hn
theorem wpList_put {ops : Array Oper} {rest : List Oper} {o : Oper} {a : Act} {Q : Exit → Act → World → Prop} (w : World) (hg : o.guard = none) (m x v : Operand) (hop : o.op = Op.mapUpdate 40 m x v)
    (mb : Nat) (l : List StD) (k : StD) (hm : a.eval m = .map (some mb)) (hx : a.eval x = stV k) (hv : a.eval v = .bool true) (h : Met w mb l) (hk : StP k) (hn : ¬ k ∈ l)
    (hK : ∀ w', Met w' mb (k :: l) → Only (Just mb) w w' → wpList Try.prog ops Q rest (a.put o.dst undef) w') : wpList Try.prog ops Q (o :: rest) a w := by
  refine wpList_plain hg fun K' hK' => ?_
  obtain ⟨w', hrun, r1, r2⟩ := run_put h hk hn
  unfold Oper.wp
  simp [execOp, hop, hm, hx, hv, hrun, Result.andThen]
  exact hK' _ _ (hK w' r1 r2)
/-! the small functions -/
section
set_option maxHeartbeats 1000000
set_option maxRecDepth 100000
theorem must_any (o : DoneR) (dA : Option Addr) (dn dc : Nat) (w : World) : Calls Try.prog 31 #[doneV o (.slice dA dn dc)] w fun e w' => e = .returned (.bool (mustD o)) ∧ Only Non w w' := by
  have HO := Lib.hid (show Only Non w (w.alloc (.cells (doneC o (.slice dA dn dc)) 33)) from (Only.refl _ _).alloc _)
  unfold doneV doneC mustD
  unfold doneC at HO
  go_enter Try.func31, Try.ntmps31
  go_wp2
  go_ret
  exact ⟨rfl, HO.out⟩
theorem wraps_u64_64 (n : Int) (h₀ : 0 ≤ n) (h₁ : n < 2 ^ 64) : IntKind.u64.wrap n = n := by rw [IntKind.wrap_u64]; omega
theorem bit_and (x i : Nat) (hx : x < 18446744073709551616) : (bits .and .u64 ((x : Int) / 2 ^ i) 1 != 0) = x.testBit i := by
  have h1 : x / 2 ^ i < 2 ^ 64 := Nat.lt_of_le_of_lt (Nat.div_le_self _ _) hx
  have h := (bits_nat .u64 64 (by decide) wraps_u64_64 (x / 2 ^ i) 1 h1 (by decide)).1
  rw [show ((x : Int) / 2 ^ i) = ((x / 2 ^ i : Nat) : Int) from by push_cast; rfl]
  rw [show (1 : Int) = ((1 : Nat) : Int) from rfl, h, Nat.and_one_is_mod, Nat.testBit_eq_decide_div_mod_eq]
  rcases Nat.mod_two_eq_zero_or_one (x / 2 ^ i) with e | e <;> rw [e] <;> decide
theorem bit_or (x i : Nat) (hx : x < 18446744073709551616) (hi : i < 64) : bits .or .u64 x (2 ^ i) = ((x ||| 2 ^ i : Nat) : Int) := by
  have h := (bits_nat .u64 64 (by decide) wraps_u64_64 x (2 ^ i) hx (Nat.pow_lt_pow_right (by decide) hi)).2
  rw [← h]
  push_cast
  rfl
theorem has_any (x i : Nat) (last : Int) (hx : x < 18446744073709551616) (hi : i < 64) (w : World) : Calls Try.prog 32 #[stV (x, last), .int .i64 i] w fun e w' => e = .returned (.bool (x.testBit i)) ∧ Only Non w w' := by
  have HO := Lib.hid (show Only Non w (w.alloc (.cells #[.int .u64 x, .int .i64 last] 48)) from (Only.refl _ _).alloc _)
  unfold stV
  dsimp only
  have hb := Lib.hid (bit_and x i hx)
  go_enter Try.func32, Try.ntmps32
  go_wp2
  go_ret
  exact ⟨by rw [← hb.out]; rfl, HO.out⟩
theorem counts_any (o : DoneR) (dA : Option Addr) (dn dc : Nat) (w : World) : Calls Try.prog 13 #[doneV o (.slice dA dn dc)] w fun e w' => e = .returned (.bool (countsD o)) ∧ Only Non w w' := by
  have HO := Lib.hid (show Only Non w (w.alloc (.cells (doneC o (.slice dA dn dc)) 33)) from (Only.refl _ _).alloc _)
  unfold doneV doneC countsD
  unfold doneC at HO
  by_cases h1 : 0 ≤ o.to
  · have h2 : ¬ o.to < 0 := by omega
    by_cases h3 : o.code = 0
    · have h4 : (o.code == 0) = true := by simp [h3]
      have H3 := Lib.hid h3
      clear h3
      go_enter Try.func13, Try.ntmps13
      go_wp2
      go_ret
      exact ⟨by simp [h1, H3.out], HO.out⟩
    · have h4 : (o.code == 0) = false := by simp [h3]
      go_enter Try.func13, Try.ntmps13
      go_wp2
      go_ret
      exact ⟨by have h5 : decide (o.to < 0) = false := by simp [h2]
                simp [h3, h5], HO.out⟩
  · have h2 : o.to < 0 := by omega
    go_enter Try.func13, Try.ntmps13
    go_wp2
    go_ret
    exact ⟨by have h5 : decide (0 ≤ o.to) = false := by simp [h1]
              simp [h5, h2], HO.out⟩
end
end Go.Proofs.Ythfafegfooibmaa
