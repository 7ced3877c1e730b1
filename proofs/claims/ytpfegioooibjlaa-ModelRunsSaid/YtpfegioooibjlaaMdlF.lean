/- Run. -/
import Derived.Test.YtpfegioooibjlaaMdlE
namespace Go.Proofs.Ytpfegioooibjlaa
open Go.RowKit
set_option linter.unusedVariables false
set_option linter.unusedSimpArgs false
def stepM (most : Nat) (s : List Int × Nat) (b : Int) : List Int × Nat := (useL b most s.1, if b ∈ s.1 then s.2 else s.2 + 1)
def runM (most : Nat) (bs : List Int) : List Int × Nat := bs.foldl (stepM most) ([], 0)
theorem runM_snoc (most : Nat) (bs : List Int) (b : Int) : runM most (bs ++ [b]) = stepM most (runM most bs) b := by simp [runM, List.foldl_append]
theorem take_snoc (bs : List Int) (k : Nat) (hk : k < bs.length) : bs.take (k + 1) = bs.take k ++ [bs.getD k 0] := by
  rw [List.take_succ_eq_append_getElem hk]; simp [hk]
theorem runM_le (most : Nat) (bs : List Int) : (runM most bs).2 ≤ bs.length := by
  have gen : ∀ (bs : List Int) (s : List Int × Nat), (bs.foldl (stepM most) s).2 ≤ s.2 + bs.length := by
    intro bs
    induction bs with
    | nil => intro s; exact Nat.le_refl _
    | cons b bs ih =>
      intro s
      have := ih (stepM most s b)
      have h2 : (stepM most s b).2 ≤ s.2 + 1 := by unfold stepM; dsimp only; split <;> omega
      rw [List.foldl_cons, List.length_cons]; omega
  have := gen bs ([], 0)
  simpa [runM] using this
def inR (b : Int) : Bool := decide (0 ≤ b) && decide (b ≤ 63)
theorem inR_no {b : Int} (h : inR b = false) : b < 0 ∨ 63 < b := by
  simp only [inR, Bool.and_eq_false_iff, decide_eq_false_iff_not] at h; omega
theorem inR_yes {b : Int} (h : inR b = true) : 0 ≤ b ∧ b ≤ 63 := by simpa only [inR, Bool.and_eq_true, decide_eq_true_eq] using h
theorem all_at (bs : List Int) : (bs.all inR = true) ↔ ∀ j, j < bs.length → inR (bs.getD j 0) = true := by
  rw [List.all_eq_true]
  constructor
  · intro h j hj
    have := h bs[j] (List.getElem_mem hj)
    simpa [hj] using this
  · intro h x hx
    obtain ⟨j, hj, rfl⟩ := List.mem_iff_getElem.1 hx
    have := h j hj
    simpa [hj] using this
def RunPost (base : Nat) (c0 c1 c2 : Int) (bs : List Int) (w : World) (e : Ending) (w' : World) : Prop :=
  if rightC c0 c1 c2 then
    if bs.all inR then ∃ lb F, e = .returned (.tuple #[.pointer (some ⟨lb, 0, none⟩), .int .i64 0]) ∧
      MdlIs w' base lb F c0.toNat c1.toNat c2.toNat (runM (c0.toNat + c1.toNat + c2.toNat) bs).1 (runM (c0.toNat + c1.toNat + c2.toNat) bs).2 ∧ (∀ k, F k → w.heap.size ≤ k) ∧ Only Non w w'
    else e = .returned (.tuple #[.pointer none, .int .i64 3]) ∧ Only Non w w'
  else e = .returned (.tuple #[.pointer none, .int .i64 6]) ∧ Only Non w w'
def RuRel (base lb : Nat) (c0 c1 c2 : Nat) (bs : List Int) (w w1 : World) (i : Value) (wr : World) : Prop :=
  ∃ (k : Nat) (F : Nat → Prop), k ≤ bs.length ∧ i = .int .i64 k ∧ MdlIs wr base lb F c0 c1 c2 (runM (c0 + c1 + c2) (bs.take k)).1 (runM (c0 + c1 + c2) (bs.take k)).2 ∧ (∀ j, j < k → inR (bs.getD j 0) = true) ∧ (∀ x, F x → w.heap.size ≤ x) ∧ Only Non w wr
section
set_option maxHeartbeats 2000000
set_option maxRecDepth 100000
theorem run_any (base : Nat) (c0 c1 c2 : Int) (A : Option Addr) (n c : Nat) (bs : List Int) (w : World) (hbase : base ≤ w.heap.size) (hbs : IntsAt w (.slice A n c) bs) (hn : n ≤ 100000) :
    Calls Try.prog 18 #[.agg #[.int .i64 c0, .int .i64 c1, .int .i64 c2], .slice A n c] w (RunPost base c0 c1 c2 bs w) := by
  obtain rfl := hbs.len
  have hb := Box.fresh w 22 #[.int .i64 c0, .int .i64 c1, .int .i64 c2]
  have hal : Only Non w (w.alloc (.cells #[.int .i64 c0, .int .i64 c1, .int .i64 c2] 22)) := (Only.refl _ _).alloc _
  have Hal := Lib.hid hal
  have d0 : (w.alloc (.cells #[.int .i64 c0, .int .i64 c1, .int .i64 c2] 22)).cell? ⟨w.heap.size, 0, none⟩ = some (.int .i64 c0) := hb.cellAt rfl
  have d1 : (w.alloc (.cells #[.int .i64 c0, .int .i64 c1, .int .i64 c2] 22)).cell? ⟨w.heap.size, 1, none⟩ = some (.int .i64 c1) := hb.cellAt rfl
  have d2 : (w.alloc (.cells #[.int .i64 c0, .int .i64 c1, .int .i64 c2] 22)).cell? ⟨w.heap.size, 2, none⟩ = some (.int .i64 c2) := hb.cellAt rfl
  have HN := Lib.hid (mnew_any base c0 c1 c2 _ (Nat.le_trans hbase hal.size))
  have Hbs := Lib.hid hbs
  clear hb hal hbs
  go_enter Try.func18, Try.ntmps18
  go_wp2_with fail
  generalize w.alloc (.cells #[.int .i64 c0, .int .i64 c1, .int .i64 c2] 22) = W at *
  refine HN.out.mono ?_
  intro e w1 hp
  unfold MNewPost at hp
  cases hr : rightC c0 c1 c2
  · rw [hr, if_neg (by decide)] at hp
    obtain ⟨rfl, ho⟩ := hp
    have Hr := Lib.hid hr
    have Ho := Lib.hid ho
    clear hr ho
    go_wp2_with fail
    go_ret2
    rw [RunPost, Hr.out, if_neg (by decide)]
    exact ⟨rfl, Hal.out.trans Ho.out⟩
  · rw [hr, if_pos rfl] at hp
    obtain ⟨lb, F, rfl, hm, hF, ho⟩ := hp
    have hz := Hal.out.size
    have Hr := Lib.hid hr
    have Hst := Lib.hid (show RuRel base lb c0.toNat c1.toNat c2.toNat bs w w1 (.int .i64 0) w1 from ⟨0, F, Nat.zero_le _, rfl, hm, fun j hj => absurd hj (by omega), fun x hx => Nat.le_trans hz (hF x hx), Hal.out.trans ho⟩)
    clear hr hm hF ho hz
    generalize hk0 : c0.toNat = k0 at *
    generalize hk1 : c1.toNat = k1 at *
    generalize hk2 : c2.toNat = k2 at *
    have K0 := Lib.hid hk0
    have K1 := Lib.hid hk1
    have K2 := Lib.hid hk2
    clear hk0 hk1 hk2
    go_wp2_with fail
    go_loopw [22] (fun i wr => RuRel base lb k0 k1 k2 bs w w1 i wr) (fun i _ => bs.length - (intOf i).toNat)
    case atStart => exact Hst.out
    case round =>
      clear Hst
      obtain ⟨k, F, hk, rfl, hm, hok, hF, ho⟩ := hrel
      have Hm := Lib.hid hm
      have Hok := Lib.hid hok
      have HF := Lib.hid hF
      have Ho := Lib.hid ho
      clear hm hok hF
      by_cases hlt : k < bs.length
      · have hb2 := Hbs.out.keep ho fun _ _ _ _ _ => id
        obtain ⟨g, o, rfl, hc⟩ := hb2.cellAt hlt
        have Hsn := Lib.hid (take_snoc bs k hlt)
        have hmk := runM_le (k0 + k1 + k2) (bs.take k)
        have hmk2 : (bs.take k).length ≤ 100000 := by rw [List.length_take]; omega
        have Hall := Lib.hid (all_at bs)
        have hwz := ho.size
        clear hb2 ho
        generalize hx : bs.getD k 0 = x at *
        have Hx := Lib.hid hx; clear hx
        cases hin : inR x
        · have HU := Lib.hid (use_out lb x wr (inR_no hin))
          have Hno := Lib.hid (show bs.all inR = false from by
            cases hb : bs.all inR
            · rfl
            · have := (Hall.out.1 hb) k hlt
              rw [Hx.out, hin] at this
              cases this)
          clear hin hmk hmk2
          go_wp2_with fail
          refine HU.out.mono ?_
          rintro e w' ⟨rfl, rfl⟩
          go_wp2_with fail
          go_ret2
          rw [RunPost, Hr.out, if_pos rfl, Hno.out, if_neg (by decide)]
          exact ⟨rfl, Ho.out⟩
        · have hir := inR_yes hin
          have HU := Lib.hid (use_in base lb F k0 k1 k2 _ _ x wr Hm.out (by omega) (Nat.le_trans hmk (by omega)) hir.1 hir.2)
          have Hin := Lib.hid hin
          clear hin hmk hmk2 hir
          go_wp2_with fail
          refine HU.out.mono ?_
          rintro e w' ⟨rfl, F', hm', hF', ho'⟩
          have Hm' := Lib.hid hm'
          have HF' := Lib.hid hF'
          have Ho' := Lib.hid ho'
          clear hm' hF' ho'
          go_wp2_with fail
          refine ⟨⟨k + 1, F', by omega, by simp, ?_, fun j hj => ?_, fun y hy => (HF'.out y hy).elim (HF.out y) fun h => by omega, Ho.out.trans' Ho'.out fun y hy => .inr (HF.out y hy)⟩, by simp [intOf]; omega⟩
          · rw [Hsn.out, runM_snoc]; exact Hm'.out
          · rcases Nat.lt_or_ge j k with h | h
            · exact Hok.out j h
            · obtain rfl : j = k := by omega
              rw [Hx.out]; exact Hin.out
      · have hkn : k = bs.length := by omega
        have Hall := Lib.hid ((all_at bs).2 (by rw [← hkn]; exact Hok.out))
        have Hkn := Lib.hid hkn
        clear hkn ho
        go_wp2_with fail
        go_ret2
        rw [RunPost, Hr.out, if_pos rfl, Hall.out, if_pos rfl]
        have hm := Hm.out
        rw [Hkn.out, List.take_length] at hm
        rw [K0.out, K1.out, K2.out]
        exact ⟨lb, F, rfl, hm, HF.out, Ho.out⟩
end
end Go.Proofs.Ytpfegioooibjlaa
