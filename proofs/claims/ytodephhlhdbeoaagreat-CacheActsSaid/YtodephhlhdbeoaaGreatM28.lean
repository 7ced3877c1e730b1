/- Several texts, one behind the other: Rcb Rcc Rcd Rce Rcf Rch. -/
import Derived.Test.YtodephhlhdbeoaaGreatM14
import Derived.Test.YtodephhlhdbeoaaGreatM27
import Derived.Test.YtodephhlhdbeoaaGreatM24
import Derived.Test.YtodephhlhdbeoaaGreatM23
import Derived.Test.YtodephhlhdbeoaaGreatM19
import Derived.Test.YtodephhlhdbeoaaGreatM1
namespace Go.Proofs.YtodephhlhdbeoaaGreat
open Go.RowKit Go.ChangeShapes Go.WideShapes
set_option linter.unusedVariables false
set_option linter.unusedSimpArgs false
structure RmqJ where
  mb : Nat
  qb : Nat
  qc : Nat
  ob : Nat
  eb : Nat
  B : Nat
def fiC (f : Int → Int) : Array Value := Array.ofFn (n := 64) fun i => .int .i64 (f ((i.1 : Nat) : Int))
theorem fiC_at (f : Int → Int) {b : Nat} (hb : b < 64) : (fiC f)[b]? = some (.int .i64 (f b)) := by
  unfold fiC; rw [Array.getElem?_ofFn, dif_pos hb]
theorem fiC_set (f : Int → Int) {b : Nat} (hb : b < 64) (v : Int) : (fiC f).setIfInBounds b (.int .i64 v) = fiC (updI f b v) := by
  refine Array.ext (by simp [fiC]) fun j h1 h2 => ?_
  have hj : j < 64 := by simpa [fiC] using h2
  rw [Array.getElem_setIfInBounds (by simpa [fiC] using hj)]
  simp only [fiC, Array.getElem_ofFn]
  unfold updI
  by_cases e : b = j
  · subst e; simp
  · rw [if_neg e, if_neg (by omega)]
def rmqC (P : MqP) (j : RmqJ) (gv : Value) (now : Int) : Array Value :=
  #[.int .i64 P.cap, .int .i64 P.life, .int .i64 P.ghost, .slice (some ⟨j.qb, 0, none⟩) P.q j.qc, gv, .slice (some ⟨j.ob, 0, none⟩) 64 64, .slice (some ⟨j.eb, 0, none⟩) 64 64, .int .i64 now]
def qvL (q : Nat) (qv : Nat → Value) : List Value := (List.range q).map qv
theorem qvL_len (q : Nat) (qv : Nat → Value) : (qvL q qv).length = q := by simp [qvL]
theorem qvL_at (q : Nat) (qv : Nat → Value) {i : Nat} (hi : i < q) : (qvL q qv)[i]? = some (qv i) := by simp [qvL, hi]
theorem qvL_set (q : Nat) (qv : Nat → Value) (i : Nat) (v : Value) : (qvL q qv).set i v = qvL q (updN qv i v) := by
  apply List.ext_getElem?
  intro k
  unfold qvL updN
  rw [List.getElem?_set]
  by_cases e : i = k
  · subst e
    by_cases h : i < q
    · simp [h]
    · simp [h]
  · rw [if_neg e]
    by_cases h : k < q
    · simp only [List.getElem?_map, List.getElem?_range h, Option.map_some]
      rw [if_neg (fun e2 => e e2.symm)]
    · simp [h]
structure RMqA (j : RmqJ) (P : MqP) (gv : Value) (qv : Nat → Value) (s : MqS) (w : World) : Prop where
  box : Box w j.mb 250 (rmqC P j gv s.now)
  row : Row 43 w (.slice (some ⟨j.qb, 0, none⟩) P.q j.qc) (qvL P.q qv)
  q : ∀ i, i < P.q → OwnInts 3 w j.B (qv i) (s.S i)
  g : OwnInts 3 w j.B gv (s.S P.q)
  of : Box w j.ob 3 (fiC s.often)
  ex : Box w j.eb 3 (fiC s.exp)
  lt : j.mb < j.B ∧ j.qb < j.B ∧ j.ob < j.B ∧ j.eb < j.B
  ne : j.ob ≠ j.eb
  bs : j.B ≤ w.heap.size
def RMq (j : RmqJ) (P : MqP) (s : MqS) (w : World) : Prop := ∃ gv qv, RMqA j P gv qv s w
def RF (j : RmqJ) : Nat → Prop := fun k => k = j.mb ∨ k = j.qb ∨ k = j.ob ∨ k = j.eb
section
variable {j : RmqJ} {P : MqP} {gv : Value} {qv : Nat → Value} {s : MqS} {w w' : World}
theorem RMqA.only {S : Nat → Prop} (h : RMqA j P gv qv s w) (ho : Only S w w') (hS : ∀ k, k < w.heap.size → ¬ S k) : RMqA j P gv qv s w' :=
  ⟨ho.box h.box (hS _ h.box.lt), h.row.only ho fun k hk => hS k (h.row.lt hk), fun i hi => (h.q i hi).only ho fun g hg => hS g ((h.q i hi).lt g hg).2, h.g.only ho fun g hg => hS g (h.g.lt g hg).2, ho.box h.of (hS _ h.of.lt), ho.box h.ex (hS _ h.ex.lt), h.lt, h.ne, Nat.le_trans h.bs ho.size⟩
theorem RMqA.keep (h : RMqA j P gv qv s w) (ho : Only Non w w') : RMqA j P gv qv s w' := h.only ho fun _ _ => id
theorem RMqA.off {S : Nat → Prop} (h : RMqA j P gv qv s w) (ho : Only S w w') (hS : ∀ k, RF j k → ¬ S k) (hB : ∀ k, j.B ≤ k → k < w.heap.size → ¬ S k) : RMqA j P gv qv s w' :=
  ⟨ho.box h.box (hS _ (.inl rfl)), h.row.only ho fun k hk => hS k (.inr (.inl (ownB_slice.1 hk).symm)), fun i hi => (h.q i hi).only ho fun g hg => hB g ((h.q i hi).lt g hg).1 ((h.q i hi).lt g hg).2, h.g.only ho fun g hg => hB g (h.g.lt g hg).1 (h.g.lt g hg).2, ho.box h.of (hS _ (.inr (.inr (.inl rfl)))), ho.box h.ex (hS _ (.inr (.inr (.inr rfl)))), h.lt, h.ne, Nat.le_trans h.bs ho.size⟩
theorem RMqA.c3 (h : RMqA j P gv qv s w) : w.cell? ⟨j.mb, 3, none⟩ = some (.slice (some ⟨j.qb, 0, none⟩) P.q j.qc) := h.box.cellAt rfl
theorem RMqA.c4 (h : RMqA j P gv qv s w) : w.cell? ⟨j.mb, 4, none⟩ = some gv := h.box.cellAt rfl
theorem RMqA.c5 (h : RMqA j P gv qv s w) : w.cell? ⟨j.mb, 5, none⟩ = some (.slice (some ⟨j.ob, 0, none⟩) 64 64) := h.box.cellAt rfl
theorem RMqA.c6 (h : RMqA j P gv qv s w) : w.cell? ⟨j.mb, 6, none⟩ = some (.slice (some ⟨j.eb, 0, none⟩) 64 64) := h.box.cellAt rfl
theorem RMqA.c7 (h : RMqA j P gv qv s w) : w.cell? ⟨j.mb, 7, none⟩ = some (.int .i64 s.now) := h.box.cellAt rfl
theorem RMqA.cq (h : RMqA j P gv qv s w) {i : Nat} (hi : i < P.q) : w.cell? ⟨j.qb, i, none⟩ = some (qv i) ∧ w.frozen? ⟨j.qb, i, none⟩ = false := by
  obtain ⟨g, c, e, h1, h2⟩ := h.row.cell (qvL_at P.q qv hi)
  injection e with e1
  injection e1 with e1
  injection e1 with e1
  rw [e1]
  exact ⟨h1, h2⟩
end
theorem mqFrom_len (S : Nat → List Int) : ∀ k, ((mqFrom S (k + 1)).length : Int) = (mqFrom S k).length + (S k).length
  | k => by rw [mqFrom, List.length_append]; omega
def OfRel (j : RmqJ) (P : MqP) (s : MqS) (b : Int) (w : World) (i : Value) (wr : World) : Prop := ∃ k : Nat, k ≤ P.q ∧ i = .int .i64 k ∧ (∀ t, t < k → b ∉ s.S t) ∧ w = wr
def RlnRel (P : MqP) (s : MqS) (w : World) (v i : Value) (wr : World) : Prop := ∃ k : Nat, k ≤ P.q ∧ i = .int .i64 k ∧ v = .int .i64 (mqFrom s.S k).length ∧ w = wr
section
set_option maxHeartbeats 4000000
set_option maxRecDepth 100000
variable {j : RmqJ} {P : MqP} {s : MqS} {w : World}
theorem nodup_sub2 : ∀ {L L' : List Int}, L.Nodup → (∀ x ∈ L, x ∈ L') → L.length ≤ L'.length
  | [], L', _, _ => Nat.zero_le _
  | a :: L, L', hn, h => by
    rw [List.nodup_cons] at hn
    have ha := h a (List.mem_cons_self ..)
    have := nodup_sub2 (L' := L'.erase a) hn.2 fun x hx => (List.mem_erase_of_ne (fun (e : x = a) => hn.1 (e ▸ hx))).2 (h x (List.mem_cons_of_mem _ hx))
    rw [List.length_erase_of_mem ha] at this
    have := List.length_pos_of_mem ha
    rw [List.length_cons]
    omega
theorem len64 {S : Nat → List Int} {m i : Nat} (h : Djl m S) : (S i).length ≤ 64 := by
  have h1 : (S i).length ≤ ((List.range 64).map Int.ofNat).length := nodup_sub2 (h.nodup i) fun x hx => by
    have := h.rng hx
    exact List.mem_map.2 ⟨x.toNat, List.mem_range.2 (by omega), by simp; omega⟩
  simpa using h1
theorem rmq_of_in {i : Nat} {b : Int} (h : RMq j P s w) (hd : Djl (P.q + 1) s.S) (hq : P.q ≤ 8) (hi : i < P.q) (hb : b ∈ s.S i) :
    Calls Tryz.prog 267 #[.pointer (some ⟨j.mb, 0, none⟩), .int .i64 b] w fun e w' => e = .returned (.int .i64 i) ∧ w = w' := by
  obtain ⟨gv, qv, hA⟩ := h
  have HA := Lib.hid hA
  have HI := Lib.hid hi
  have HB := Lib.hid hb
  have HD := Lib.hid hd
  have x3 := hA.c3
  clear hA hi hb hd
  go_enter Tryz.func267, Tryz.ntmps267
  go_upto_region 2 with fail
  go_loopw [5] (fun iv wr => OfRel j P s b w iv wr) (fun iv _ => P.q - (intOf iv).toNat)
  case atStart => exact ⟨0, Nat.zero_le _, rfl, fun t ht => absurd ht (by omega), rfl⟩
  case round =>
    obtain ⟨k, hk, rfl, hno, rfl⟩ := hrel
    have HN := Lib.hid hno
    clear hno
    have hki : k ≤ i := by
      rcases Nat.lt_or_ge i k with h | h
      · exact absurd HB.out (HN.out i h)
      · exact h
    have hlt : k < P.q := by have := HI.out; omega
    have hlti : (k : Int) < P.q := by omega
    obtain ⟨xq, _⟩ := HA.out.cq hlt
    have hown := HA.out.q k hlt
    obtain ⟨A, c, eq, h1, h2⟩ := hown.shape
    have HH := has_ints A c _ (s.S k) b w (by rw [← eq]; exact hown.at) (Nat.le_trans h1 h2)
    rw [eq] at xq
    have HLT := Lib.hid hlt
    clear hown eq h1 h2 hlt hk
    by_cases hbk : b ∈ s.S k
    · rw [decide_eq_true hbk] at HH
      have HH := Lib.hid HH
      have HE := Lib.hid (HD.out.dj hbk HB.out)
      clear hbk
      go_wp2_with (go_at_call 43; refine HH.out.mono ?_; rintro e W1 ⟨rfl, rfl⟩)
      go_ret
      exact ⟨by rw [← HE.out]; rfl, rfl⟩
    · rw [decide_eq_false hbk] at HH
      have HH := Lib.hid HH
      have HN2 := Lib.hid (show ∀ t, t < k + 1 → b ∉ s.S t from fun t ht => by
        by_cases e : t = k
        · rw [e]; exact hbk
        · exact HN.out t (by omega))
      clear hbk
      go_wp2_with (go_at_call 43; refine HH.out.mono ?_; rintro e W1 ⟨rfl, rfl⟩)
      go_roundw
      case rel => exact ⟨k + 1, HLT.out, by go_num, HN2.out, rfl⟩
      case measure => simp [intOf]; have := HLT.out; omega
theorem rmq_of_no {b : Int} (h : RMq j P s w) (hq : P.q ≤ 8) (hb : ∀ i, i < P.q → b ∉ s.S i) :
    Calls Tryz.prog 267 #[.pointer (some ⟨j.mb, 0, none⟩), .int .i64 b] w fun e w' => e = .returned (.int .i64 (-1)) ∧ w = w' := by
  obtain ⟨gv, qv, hA⟩ := h
  have HA := Lib.hid hA
  have HB := Lib.hid hb
  have x3 := hA.c3
  clear hA hb
  go_enter Tryz.func267, Tryz.ntmps267
  go_upto_region 2 with fail
  go_loopw [5] (fun iv wr => OfRel j P s b w iv wr) (fun iv _ => P.q - (intOf iv).toNat)
  case atStart => exact ⟨0, Nat.zero_le _, rfl, fun t ht => absurd ht (by omega), rfl⟩
  case round =>
    obtain ⟨k, hk, rfl, hno, rfl⟩ := hrel
    have HN := Lib.hid hno
    clear hno
    by_cases hlt : k < P.q
    · have hlti : (k : Int) < P.q := by omega
      obtain ⟨xq, _⟩ := HA.out.cq hlt
      have hown := HA.out.q k hlt
      obtain ⟨A, c, eq, h1, h2⟩ := hown.shape
      have HH := has_ints A c _ (s.S k) b w (by rw [← eq]; exact hown.at) (Nat.le_trans h1 h2)
      rw [eq] at xq
      have HLT := Lib.hid hlt
      rw [decide_eq_false (HB.out k hlt)] at HH
      have HH := Lib.hid HH
      clear hown eq h1 h2 hlt hk
      go_wp2_with (go_at_call 43; refine HH.out.mono ?_; rintro e W1 ⟨rfl, rfl⟩)
      go_roundw
      case rel => exact ⟨k + 1, HLT.out, by go_num, fun t ht => HB.out t (by have := HLT.out; omega), rfl⟩
      case measure => simp [intOf]; have := HLT.out; omega
    · obtain rfl : k = P.q := by omega
      clear hlt hk
      go_wp2
      go_ret
      exact ⟨rfl, rfl⟩
theorem from_le {S : Nat → List Int} (h : ∀ i, (S i).length ≤ 64) : ∀ k, (mqFrom S k).length ≤ 64 * k
  | 0 => by simp [mqFrom]
  | k + 1 => by rw [mqFrom, List.length_append]; have := from_le h k; have := h k; omega
theorem rmq_len (h : RMq j P s w) (hd : Djl (P.q + 1) s.S) (hq : P.q ≤ 8) :
    Calls Tryz.prog 269 #[.pointer (some ⟨j.mb, 0, none⟩)] w fun e w' => e = .returned (.int .i64 (mqAll P s).length) ∧ w = w' := by
  obtain ⟨gv, qv, hA⟩ := h
  have HA := Lib.hid hA
  have x3 := hA.c3
  have H64 := Lib.hid (fun i => len64 (i := i) hd)
  clear hA hd
  go_enter Tryz.func269, Tryz.ntmps269
  go_upto_region 3 with fail
  go_loopw [3, 4] (fun v iv wr => RlnRel P s w v iv wr) (fun _ iv _ => P.q - (intOf iv).toNat)
  case atStart => exact ⟨0, Nat.zero_le _, rfl, rfl, rfl⟩
  case round =>
    obtain ⟨k, hk, rfl, rfl, rfl⟩ := hrel
    by_cases hlt : k < P.q
    · have hlti : (k : Int) < P.q := by omega
      obtain ⟨xq, _⟩ := HA.out.cq hlt
      obtain ⟨A, c, eq, h1, h2⟩ := (HA.out.q k hlt).shape
      rw [eq] at xq
      have HLT := Lib.hid hlt
      have HLN := Lib.hid (mqFrom_len s.S k)
      have hf := from_le H64.out k
      have h6 := H64.out k
      clear eq h1 h2 hlt hk
      generalize (s.S k).length = nk at *
      generalize (mqFrom s.S k).length = fk at *
      go_wp2
      go_roundw
      case rel => exact ⟨k + 1, HLT.out, by go_num, by rw [HLN.out], rfl⟩
      case measure => simp [intOf]; have := HLT.out; omega
    · obtain rfl : k = P.q := by omega
      clear hlt hk
      go_wp2
      go_ret
      exact ⟨rfl, rfl⟩
end
section
variable {j : RmqJ} {P : MqP} {gv : Value} {qv : Nat → Value} {s s' : MqS} {w w' : World}
theorem RMqA.congr (h : RMqA j P gv qv s w) (h1 : ∀ i, i ≤ P.q → s.S i = s'.S i) (h2 : s.now = s'.now) (h3 : s.often = s'.often) (h4 : s.exp = s'.exp) : RMqA j P gv qv s' w :=
  ⟨h2 ▸ h.box, h.row, fun i hi => h1 i (by omega) ▸ h.q i hi, h1 _ (Nat.le_refl _) ▸ h.g, h3 ▸ h.of, h4 ▸ h.ex, h.lt, h.ne, h.bs⟩
theorem RMqA.rowBox (h : RMqA j P gv qv s w) (hq : 0 < P.q) : ∃ cs, Box w j.qb 43 cs := h.row.box (ownB_slice.2 rfl)
theorem RMqA.setq (h : RMqA j P gv qv s w) {k : Nat} (hk : k < P.q) {v : Value} {l : List Int} (hv : OwnInts 3 w j.B v l) : RMqA j P gv (updN qv k v) { s with S := updN s.S k l } (w.setCell ⟨j.qb, k, none⟩ v) := by
  obtain ⟨cs, hb⟩ := h.rowBox (by omega)
  have ho : Only (Just j.qb) w (w.setCell ⟨j.qb, k, none⟩ v) := (Only.refl (Just j.qb) w).setCell (p := ⟨j.qb, k, none⟩) (.inl (show Just j.qb j.qb from rfl)) _
  have hlt := h.lt
  have nB : ∀ g, j.B ≤ g → ¬ Just j.qb g := fun g hg e => by have h1 : g = j.qb := e; omega
  have hst := h.row.store (i := k) (by rw [qvL_len]; exact hk) v (ownB_slice.2 rfl)
  rw [qvL_set] at hst
  refine ⟨ho.box h.box (h.box.off hb (by decide)), hst, fun i hi => ?_, ?_, ho.box h.of (h.of.off hb (by decide)), ho.box h.ex (h.ex.off hb (by decide)), h.lt, h.ne, Nat.le_trans h.bs ho.size⟩
  · show OwnInts 3 _ j.B (updN qv k v i) (updN s.S k l i)
    unfold updN
    by_cases e : i = k
    · rw [if_pos e, if_pos e]
      exact hv.only ho fun g hg => nB g (hv.lt g hg).1
    · rw [if_neg e, if_neg e]
      exact (h.q i hi).only ho fun g hg => nB g ((h.q i hi).lt g hg).1
  · show OwnInts 3 _ j.B gv (updN s.S k l P.q)
    unfold updN
    rw [if_neg (by omega)]
    exact h.g.only ho fun g hg => nB g (h.g.lt g hg).1
theorem RMqA.setg (h : RMqA j P gv qv s w) {v : Value} {l : List Int} (hv : OwnInts 3 w j.B v l) (hq : 0 < P.q) : RMqA j P v qv { s with S := updN s.S P.q l } (w.setCell ⟨j.mb, 4, none⟩ v) := by
  obtain ⟨cs, hb⟩ := h.rowBox hq
  have ho : Only (Just j.mb) w (w.setCell ⟨j.mb, 4, none⟩ v) := (Only.refl (Just j.mb) w).setCell (p := ⟨j.mb, 4, none⟩) (.inl (show Just j.mb j.mb from rfl)) _
  have hlt := h.lt
  have nB : ∀ g, j.B ≤ g → ¬ Just j.mb g := fun g hg e => by have h1 : g = j.mb := e; omega
  refine ⟨h.box.store 4 v, h.row.only ho fun g hg e => ?_, fun i hi => ?_, ?_, ho.box h.of (h.of.off h.box (by decide)), ho.box h.ex (h.ex.off h.box (by decide)), h.lt, h.ne, Nat.le_trans h.bs ho.size⟩
  · have h1 := ownB_slice.1 hg
    exact (hb.off h.box (by decide)) (h1.trans e)
  · show OwnInts 3 _ j.B (qv i) (updN s.S P.q l i)
    unfold updN
    rw [if_neg (by omega)]
    exact (h.q i hi).only ho fun g hg => nB g ((h.q i hi).lt g hg).1
  · show OwnInts 3 _ j.B v (updN s.S P.q l P.q)
    unfold updN
    rw [if_pos rfl]
    exact hv.only ho fun g hg => nB g (hv.lt g hg).1
theorem RMqA.setn (h : RMqA j P gv qv s w) (n : Int) (hq : 0 < P.q) : RMqA j P gv qv { s with now := n } (w.setCell ⟨j.mb, 7, none⟩ (.int .i64 n)) := by
  obtain ⟨cs, hb⟩ := h.rowBox hq
  have ho : Only (Just j.mb) w (w.setCell ⟨j.mb, 7, none⟩ (.int .i64 n)) := (Only.refl (Just j.mb) w).setCell (p := ⟨j.mb, 7, none⟩) (.inl (show Just j.mb j.mb from rfl)) _
  have hlt := h.lt
  have nB : ∀ g, j.B ≤ g → ¬ Just j.mb g := fun g hg e => by have h1 : g = j.mb := e; omega
  refine ⟨h.box.store 7 (.int .i64 n), h.row.only ho fun g hg e => ?_, fun i hi => (h.q i hi).only ho fun g hg => nB g ((h.q i hi).lt g hg).1, h.g.only ho fun g hg => nB g (h.g.lt g hg).1, ho.box h.of (h.of.off h.box (by decide)), ho.box h.ex (h.ex.off h.box (by decide)), h.lt, h.ne, Nat.le_trans h.bs ho.size⟩
  have h1 := ownB_slice.1 hg
  exact (hb.off h.box (by decide)) (h1.trans e)
theorem RMqA.sete (h : RMqA j P gv qv s w) {b : Nat} (hb : b < 64) (n : Int) (hq : 0 < P.q) : RMqA j P gv qv { s with exp := updI s.exp b n } (w.setCell ⟨j.eb, b, none⟩ (.int .i64 n)) := by
  obtain ⟨cs, hr⟩ := h.rowBox hq
  have ho : Only (Just j.eb) w (w.setCell ⟨j.eb, b, none⟩ (.int .i64 n)) := (Only.refl (Just j.eb) w).setCell (p := ⟨j.eb, b, none⟩) (.inl (show Just j.eb j.eb from rfl)) _
  have hlt := h.lt
  have nB : ∀ g, j.B ≤ g → ¬ Just j.eb g := fun g hg e => by have h1 : g = j.eb := e; omega
  have hst := h.ex.store b (.int .i64 n)
  rw [fiC_set _ hb] at hst
  refine ⟨ho.box h.box (h.box.off h.ex (by decide)), h.row.only ho fun g hg e => ?_, fun i hi => (h.q i hi).only ho fun g hg => nB g ((h.q i hi).lt g hg).1, h.g.only ho fun g hg => nB g (h.g.lt g hg).1, ho.box h.of h.ne, hst, h.lt, h.ne, Nat.le_trans h.bs ho.size⟩
  have h1 := ownB_slice.1 hg
  exact (hr.off h.ex (by decide)) (h1.trans e)
theorem RMqA.seto (h : RMqA j P gv qv s w) {b : Nat} (hb : b < 64) (n : Int) (hq : 0 < P.q) : RMqA j P gv qv { s with often := updI s.often b n } (w.setCell ⟨j.ob, b, none⟩ (.int .i64 n)) := by
  obtain ⟨cs, hr⟩ := h.rowBox hq
  have ho : Only (Just j.ob) w (w.setCell ⟨j.ob, b, none⟩ (.int .i64 n)) := (Only.refl (Just j.ob) w).setCell (p := ⟨j.ob, b, none⟩) (.inl (show Just j.ob j.ob from rfl)) _
  have hlt := h.lt
  have nB : ∀ g, j.B ≤ g → ¬ Just j.ob g := fun g hg e => by have h1 : g = j.ob := e; omega
  have hst := h.of.store b (.int .i64 n)
  rw [fiC_set _ hb] at hst
  refine ⟨ho.box h.box (h.box.off h.of (by decide)), h.row.only ho fun g hg e => ?_, fun i hi => (h.q i hi).only ho fun g hg => nB g ((h.q i hi).lt g hg).1, h.g.only ho fun g hg => nB g (h.g.lt g hg).1, hst, ho.box h.ex h.ne.symm, h.lt, h.ne, Nat.le_trans h.bs ho.size⟩
  have h1 := ownB_slice.1 hg
  exact (hr.off h.of (by decide)) (h1.trans e)
end
theorem erase_filter {l : List Int} (h : l.Nodup) (b : Int) : l.filter (· != b) = l.erase b := (h.erase_eq_filter b).symm
def eraK (S : Nat → List Int) (b : Int) (k : Nat) : Nat → List Int := fun i => if i < k then (S i).erase b else S i
def FiRel (j : RmqJ) (P : MqP) (gv : Value) (s : MqS) (b : Int) (w : World) (iv : Value) (wr : World) : Prop :=
  ∃ (k : Nat) (qv : Nat → Value), k ≤ P.q ∧ iv = .int .i64 k ∧ RMqA j P gv qv { s with S := eraK s.S b k } wr ∧ Only (RF j) w wr
section
set_option maxHeartbeats 4000000
set_option maxRecDepth 100000
variable {j : RmqJ} {P : MqP} {s : MqS} {w : World}
theorem rmq_first {qi n : Nat} (h : RMq j P s w) (hd : Djl (P.q + 1) s.S) (hP : P.Ok) (hqi : qi < P.q) (hn : n < 64) (hnow : 0 ≤ s.now ∧ s.now ≤ 4000000000) :
    Calls Tryz.prog 294 #[.pointer (some ⟨j.mb, 0, none⟩), .int .i64 qi, .int .i64 n] w fun e w' => e = .returned (.tuple #[]) ∧ RMq j P (mqFront P s qi n) w' ∧ Only (RF j) w w' := by
  obtain ⟨gv, qv0, hA0⟩ := h
  obtain ⟨b, hb⟩ : ∃ b : Int, b = n := ⟨_, rfl⟩
  rw [← hb]
  have HBN := Lib.hid hb
  have hq8 := hP.q8
  have hl1 := hP.l1
  have hl100 := hP.l100
  have HD := Lib.hid hd
  have HQI := Lib.hid hqi
  have HN64 := Lib.hid hn
  have HA0 := Lib.hid hA0
  have HNW := Lib.hid hnow
  have HQ0 := Lib.hid (show 0 < P.q by omega)
  have HL := Lib.hid (show ∀ k, (eraK s.S b k k).length ≤ 10000 from fun k => by
    unfold eraK; rw [if_neg (by omega)]
    have := len64 (i := k) hd; omega)
  clear hA0 hd hqi hP hb hn hnow
  go_enter Tryz.func294, Tryz.ntmps294
  go_upto_region 1 with fail
  go_loopw [6] (fun iv wr => FiRel j P gv s b w iv wr) (fun iv _ => P.q - (intOf iv).toNat)
  case atStart => exact ⟨0, qv0, Nat.zero_le _, rfl, HA0.out.congr (fun i _ => by show s.S i = eraK s.S b 0 i; unfold eraK; rw [if_neg (by omega)]) rfl rfl rfl, Only.refl _ _⟩
  case round =>
    obtain ⟨k, qv, hk, rfl, hA, ho⟩ := hrel
    have HA := Lib.hid hA
    have HO := Lib.hid ho
    have x3 := hA.c3
    clear hA ho
    by_cases hlt : k < P.q
    · have hlti : (k : Int) < P.q := by omega
      have HLT := Lib.hid hlt
      clear hlt hk
      go_upto_region 3 with fail
      have k1 : wr.drew.cell? ⟨j.mb, 3, none⟩ = some (.slice (some ⟨j.qb, 0, none⟩) P.q j.qc) := x3
      have k2 : wr.drew.cell? ⟨j.qb, k, none⟩ = some (qv k) := (HA.out.cq HLT.out).1
      refine wp_region_tail (S := (fun w' : World => w'.cell? ⟨j.mb, 3, none⟩ = some (.slice (some ⟨j.qb, 0, none⟩) P.q j.qc) ∧ w'.cell? ⟨j.qb, k, none⟩ = some (qv k))) 14 (by kernel_rfl) (by kernel_rfl) ?_ ?_
      · exact ⟨by assumption, by assumption⟩
      intro hSS
      refine wpHd_take (i := 0) (v := ?_) (by kernel_rfl) rfl (by kernel_rfl) (fun _ _ _ h => h) (.inl ⟨by rfl, ?_⟩) hSS ?_
      rotate_left
      · intro w hSw; (try dsimp only at hSw); go_simp; (try with_reducible rfl)
      refine wpHd_take (i := 1) (v := ?_) (by kernel_rfl) rfl (by kernel_rfl) (fun _ _ _ h => h) (.inl ⟨by rfl, ?_⟩) hSS ?_
      rotate_left
      · intro w hSw; (try dsimp only at hSw); go_simp; (try with_reducible rfl)
      refine wpHd_take (i := 2) (v := ?_) (by kernel_rfl) rfl (by kernel_rfl) (fun _ _ _ h => h) (.inl ⟨by rfl, ?_⟩) hSS ?_
      rotate_left
      · intro w hSw; (try dsimp only at hSw); go_simp; (try with_reducible rfl)
      refine wpHd_take (i := 3) (v := ?_) (by kernel_rfl) rfl (by kernel_rfl) (fun _ _ _ h => h) (.inl ⟨by rfl, ?_⟩) hSS ?_
      rotate_left
      · intro w hSw; (try dsimp only at hSw); go_simp; (try with_reducible rfl)
      refine wpHd_take (i := 4) (v := ?_) (by kernel_rfl) rfl (by kernel_rfl) (fun _ _ _ h => h) (.inl ⟨by rfl, ?_⟩) hSS ?_
      rotate_left
      · intro w hSw; (try dsimp only at hSw); go_simp; (try with_reducible rfl)
      try simp only [Act.put, List.getElem_toArray, List.getElem_cons_succ, List.getElem_cons_zero, List.setIfInBounds_toArray, List.set_cons_zero, List.set_cons_succ]
      refine wpHd_take (i := 5) (v := ?_) (by kernel_rfl) rfl (by kernel_rfl) (fun _ _ _ h => h) (.inl ⟨by rfl, ?_⟩) hSS ?_
      rotate_left
      · intro w hSw; (try dsimp only at hSw); go_simp; (try with_reducible rfl)
      refine wpHd_take (i := 6) (v := ?_) (by kernel_rfl) rfl (by kernel_rfl) (fun _ _ _ h => h) (.inl ⟨by rfl, ?_⟩) hSS ?_
      rotate_left
      · intro w hSw; (try dsimp only at hSw); go_simp; (try with_reducible rfl)
      refine wpHd_take (i := 7) (v := ?_) (by kernel_rfl) rfl (by kernel_rfl) (fun _ _ _ h => h) (.inl ⟨by rfl, ?_⟩) hSS ?_
      rotate_left
      · intro w hSw; (try dsimp only at hSw); go_simp; (try with_reducible rfl)
      refine wpHd_take (i := 8) (v := ?_) (by kernel_rfl) rfl (by kernel_rfl) (fun _ _ _ h => h) (.inl ⟨by rfl, ?_⟩) hSS ?_
      rotate_left
      · intro w hSw; (try dsimp only at hSw); go_simp; (try with_reducible rfl)
      refine wpHd_take (i := 9) (v := ?_) (by kernel_rfl) rfl (by kernel_rfl) (fun _ _ _ h => h) (.inl ⟨by rfl, ?_⟩) hSS ?_
      rotate_left
      · intro w hSw; (try dsimp only at hSw); go_simp; (try with_reducible rfl)
      try simp only [Act.put, List.getElem_toArray, List.getElem_cons_succ, List.getElem_cons_zero, List.setIfInBounds_toArray, List.set_cons_zero, List.set_cons_succ]
      refine wpHd_take (i := 10) (v := ?_) (by kernel_rfl) rfl (by kernel_rfl) (fun _ _ _ h => h) (.inl ⟨by rfl, ?_⟩) hSS ?_
      rotate_left
      · intro w hSw; (try dsimp only at hSw); go_simp; (try with_reducible rfl)
      refine wpHd_take (i := 11) (v := ?_) (by kernel_rfl) rfl (by kernel_rfl) (fun _ _ _ h => h) (.inl ⟨by rfl, ?_⟩) hSS ?_
      rotate_left
      · intro w hSw; (try dsimp only at hSw); go_simp; (try with_reducible rfl)
      refine wpHd_take (i := 12) (v := ?_) (by kernel_rfl) rfl (by kernel_rfl) (fun _ _ _ h => h) (.inl ⟨by rfl, ?_⟩) hSS ?_
      rotate_left
      · intro w hSw; (try dsimp only at hSw); go_simp; (try with_reducible rfl)
      try simp only [Act.put, List.getElem_toArray, List.getElem_cons_succ, List.getElem_cons_zero, List.setIfInBounds_toArray, List.set_cons_zero, List.set_cons_succ]
      refine wpHd_one (i := 13) rfl (by kernel_rfl) (fun Kc hK => ?_)
      go_simp
      refine (without_any b wr.drew ((HA.out.q k HLT.out).only ((Only.refl Non wr).drew) fun _ _ => id) (HL.out k)).mono ?_
      rintro e W1 ⟨v1, rfl, ho1, hn1⟩
      obtain ⟨A1, n1, c1, rfl⟩ : ∃ A n c, v1 = Value.slice A n c := by obtain ⟨A, c, e, _⟩ := ho1.shape; exact ⟨A, _, c, e⟩
      have HV1 := Lib.hid ho1
      have HN1 := Lib.hid ((Only.refl Non wr).drew.trans hn1)
      have k1 := hn1.cell hSS.1 id
      have k2 := hn1.cell hSS.2 id
      clear ho1 hn1
      refine hK.out _ _ ?_ (fun hSS => ?_)
      · exact ⟨by assumption, by assumption⟩
      clear hK
      try simp only [Act.put, List.getElem_toArray, List.getElem_cons_succ, List.getElem_cons_zero, List.setIfInBounds_toArray, List.set_cons_zero, List.set_cons_succ]
      refine wpHd_end (by kernel_rfl) ?_
      have HA1 := Lib.hid (HA.out.keep HN1.out)
      have hcq := HA1.out.cq HLT.out
      obtain ⟨hc1, hf1⟩ := hcq
      clear hSS k1 k2 x3
      go_wp2
      go_roundw
      case rel =>
        have hd := HD.out
        have hown : OwnInts 3 W1 j.B (.slice A1 n1 c1) ((s.S k).erase b) := by
          have h1 := HV1.out.low HA.out.bs
          have h2 : (eraK s.S b k k) = s.S k := by unfold eraK; rw [if_neg (by omega)]
          have h3 : OwnInts 3 W1 j.B (.slice A1 n1 c1) ((eraK s.S b k k).filter (· != b)) := h1
          rw [h2, erase_filter (hd.nodup k)] at h3
          exact h3
        refine ⟨k + 1, updN qv k (.slice A1 n1 c1), HLT.out, by go_num, (HA1.out.setq HLT.out hown).congr (fun i hi => ?_) rfl rfl rfl, (HO.out.transN HN1.out).setCell (p := ⟨j.qb, k, none⟩) (.inl (.inr (.inl rfl))) _⟩
        show updN (eraK s.S b k) k ((s.S k).erase b) i = eraK s.S b (k + 1) i
        unfold updN eraK
        by_cases e : i = k
        · rw [if_pos e, if_pos (by omega), e]
        · rw [if_neg e]
          by_cases h2 : i < k
          · rw [if_pos h2, if_pos (by omega)]
          · rw [if_neg h2, if_neg (by omega)]
      case measure => simp [intOf]; have := HLT.out; omega
    · obtain rfl : k = P.q := by omega
      clear hlt hk
      have x4 := HA.out.c4
      obtain ⟨gA, gc, eg, _⟩ := HA.out.g.shape
      have HW := Lib.hid (without_any b wr HA.out.g (HL.out P.q))
      clear eg
      go_upto_region 5 with (go_at_call 265; refine HW.out.mono ?_; rintro e W3 ⟨v3, rfl, ho3, hn3⟩; obtain ⟨A3, n3, c3, rfl⟩ : ∃ A n c, v3 = Value.slice A n c := (by obtain ⟨A, c, e, _⟩ := ho3.shape; exact ⟨A, _, c, e⟩); have HV3 := Lib.hid ho3; have HN3 := Lib.hid hn3; have hc4 := (HA.out.keep hn3).c4; have hf4 := (HA.out.keep hn3).box.free 4; clear ho3 hn3)
      have hown : OwnInts 3 W3 j.B (.slice A3 n3 c3) ((s.S P.q).erase b) := by
        have h1 := HV3.out.low HA.out.bs
        have h2 : (eraK s.S b P.q P.q) = s.S P.q := by unfold eraK; rw [if_neg (by omega)]
        have h3 : OwnInts 3 W3 j.B (.slice A3 n3 c3) ((eraK s.S b P.q P.q).filter (· != b)) := h1
        rw [h2, erase_filter (HD.out.nodup P.q)] at h3
        exact h3
      have hA4 := ((HA.out.keep HN3.out).setg hown HQ0.out).congr (s' := { s with S := eraS s.S b }) (fun i hi => by
        show updN (eraK s.S b P.q) P.q ((s.S P.q).erase b) i = (s.S i).erase b
        unfold updN eraK
        by_cases e : i = P.q
        · rw [if_pos e, e]
        · rw [if_neg e, if_pos (by omega)]) rfl rfl rfl
      have HA4 := Lib.hid hA4
      have HO4 := Lib.hid ((HO.out.transN HN3.out).setCell (p := ⟨j.mb, 4, none⟩) (.inl (.inl rfl)) (.slice A3 n3 c3))
      clear hA4 hown hc4 hf4 x3 x4 HA HO HN3 HV3 HW HA0
      change Code.wp _ _ _ _ (W3.setCell ⟨j.mb, 4, none⟩ (.slice A3 n3 c3))
      generalize W3.setCell ⟨j.mb, 4, none⟩ (.slice A3 n3 c3) = W4 at *
      have hqii : (qi : Int) < P.q := by have := HQI.out; omega
      have HL4 := Lib.hid (show (eraS s.S b qi).length ≤ 10000 from by
        have h1 : ((s.S qi).erase b).length ≤ (s.S qi).length := List.length_erase_le
        have := len64 (i := qi) HD.out
        show ((s.S qi).erase b).length ≤ 10000
        omega)
      have k1 : W4.drew.cell? ⟨j.mb, 3, none⟩ = some (.slice (some ⟨j.qb, 0, none⟩) P.q j.qc) := HA4.out.c3
      have k2 : W4.drew.cell? ⟨j.qb, qi, none⟩ = some (qv qi) := (HA4.out.cq HQI.out).1
      refine wp_region_tail (S := (fun w' : World => w'.cell? ⟨j.mb, 3, none⟩ = some (.slice (some ⟨j.qb, 0, none⟩) P.q j.qc) ∧ w'.cell? ⟨j.qb, qi, none⟩ = some (qv qi))) 14 (by kernel_rfl) (by kernel_rfl) ?_ ?_
      · exact ⟨by assumption, by assumption⟩
      intro hSS
      refine wpHd_take (i := 0) (v := ?_) (by kernel_rfl) rfl (by kernel_rfl) (fun _ _ _ h => h) (.inl ⟨by rfl, ?_⟩) hSS ?_
      rotate_left
      · intro w hSw; (try dsimp only at hSw); go_simp; (try with_reducible rfl)
      refine wpHd_take (i := 1) (v := ?_) (by kernel_rfl) rfl (by kernel_rfl) (fun _ _ _ h => h) (.inl ⟨by rfl, ?_⟩) hSS ?_
      rotate_left
      · intro w hSw; (try dsimp only at hSw); go_simp; (try with_reducible rfl)
      refine wpHd_take (i := 2) (v := ?_) (by kernel_rfl) rfl (by kernel_rfl) (fun _ _ _ h => h) (.inl ⟨by rfl, ?_⟩) hSS ?_
      rotate_left
      · intro w hSw; (try dsimp only at hSw); go_simp; (try with_reducible rfl)
      refine wpHd_take (i := 3) (v := ?_) (by kernel_rfl) rfl (by kernel_rfl) (fun _ _ _ h => h) (.inl ⟨by rfl, ?_⟩) hSS ?_
      rotate_left
      · intro w hSw; (try dsimp only at hSw); go_simp; (try with_reducible rfl)
      refine wpHd_take (i := 4) (v := ?_) (by kernel_rfl) rfl (by kernel_rfl) (fun _ _ _ h => h) (.inl ⟨by rfl, ?_⟩) hSS ?_
      rotate_left
      · intro w hSw; (try dsimp only at hSw); go_simp; (try with_reducible rfl)
      try simp only [Act.put, List.getElem_toArray, List.getElem_cons_succ, List.getElem_cons_zero, List.setIfInBounds_toArray, List.set_cons_zero, List.set_cons_succ]
      refine wpHd_take (i := 5) (v := ?_) (by kernel_rfl) rfl (by kernel_rfl) (fun _ _ _ h => h) (.inl ⟨by rfl, ?_⟩) hSS ?_
      rotate_left
      · intro w hSw; (try dsimp only at hSw); go_simp; (try with_reducible rfl)
      refine wpHd_take (i := 6) (v := ?_) (by kernel_rfl) rfl (by kernel_rfl) (fun _ _ _ h => h) (.inl ⟨by rfl, ?_⟩) hSS ?_
      rotate_left
      · intro w hSw; (try dsimp only at hSw); go_simp; (try with_reducible rfl)
      refine wpHd_take (i := 7) (v := ?_) (by kernel_rfl) rfl (by kernel_rfl) (fun _ _ _ h => h) (.inl ⟨by rfl, ?_⟩) hSS ?_
      rotate_left
      · intro w hSw; (try dsimp only at hSw); go_simp; (try with_reducible rfl)
      refine wpHd_take (i := 8) (v := ?_) (by kernel_rfl) rfl (by kernel_rfl) (fun _ _ _ h => h) (.inl ⟨by rfl, ?_⟩) hSS ?_
      rotate_left
      · intro w hSw; (try dsimp only at hSw); go_simp; (try with_reducible rfl)
      refine wpHd_take (i := 9) (v := ?_) (by kernel_rfl) rfl (by kernel_rfl) (fun _ _ _ h => h) (.inl ⟨by rfl, ?_⟩) hSS ?_
      rotate_left
      · intro w hSw; (try dsimp only at hSw); go_simp; (try with_reducible rfl)
      try simp only [Act.put, List.getElem_toArray, List.getElem_cons_succ, List.getElem_cons_zero, List.setIfInBounds_toArray, List.set_cons_zero, List.set_cons_succ]
      refine wpHd_take (i := 10) (v := ?_) (by kernel_rfl) rfl (by kernel_rfl) (fun _ _ _ h => h) (.inl ⟨by rfl, ?_⟩) hSS ?_
      rotate_left
      · intro w hSw; (try dsimp only at hSw); go_simp; (try with_reducible rfl)
      refine wpHd_take (i := 11) (v := ?_) (by kernel_rfl) rfl (by kernel_rfl) (fun _ _ _ h => h) (.inl ⟨by rfl, ?_⟩) hSS ?_
      rotate_left
      · intro w hSw; (try dsimp only at hSw); go_simp; (try with_reducible rfl)
      refine wpHd_take (i := 12) (v := ?_) (by kernel_rfl) rfl (by kernel_rfl) (fun _ _ _ h => h) (.inl ⟨by rfl, ?_⟩) hSS ?_
      rotate_left
      · intro w hSw; (try dsimp only at hSw); go_simp; (try with_reducible rfl)
      try simp only [Act.put, List.getElem_toArray, List.getElem_cons_succ, List.getElem_cons_zero, List.setIfInBounds_toArray, List.set_cons_zero, List.set_cons_succ]
      refine wpHd_one (i := 13) rfl (by kernel_rfl) (fun Kc hK => ?_)
      go_simp
      refine (ahead_any b W4.drew ((HA4.out.q qi HQI.out).only ((Only.refl Non W4).drew) fun _ _ => id) HL4.out).mono ?_
      rintro e W5 ⟨v5, rfl, ho5, hn5⟩
      obtain ⟨A5, n5, c5, rfl⟩ : ∃ A n c, v5 = Value.slice A n c := by obtain ⟨A, c, e, _⟩ := ho5.shape; exact ⟨A, _, c, e⟩
      have HV5 := Lib.hid ho5
      have HN5 := Lib.hid ((Only.refl Non W4).drew.trans hn5)
      have k1 := hn5.cell hSS.1 id
      have k2 := hn5.cell hSS.2 id
      clear ho5 hn5
      refine hK.out _ _ ?_ (fun hSS => ?_)
      · exact ⟨by assumption, by assumption⟩
      clear hK
      try simp only [Act.put, List.getElem_toArray, List.getElem_cons_succ, List.getElem_cons_zero, List.setIfInBounds_toArray, List.set_cons_zero, List.set_cons_succ]
      refine wpHd_end (by kernel_rfl) ?_
      have HA5 := Lib.hid (HA4.out.keep HN5.out)
      obtain ⟨hc5, hf5⟩ := HA5.out.cq HQI.out
      clear hSS k1 k2
      go_upto_region 6 with fail
      have hown5 : OwnInts 3 W5 j.B (.slice A5 n5 c5) (b :: eraS s.S b qi) := HV5.out.low HA4.out.bs
      have HA6 := Lib.hid (HA5.out.setq HQI.out hown5)
      have HO6 := Lib.hid ((HO4.out.transN HN5.out).setCell (p := ⟨j.qb, qi, none⟩) (.inl (.inr (.inl rfl))) (.slice A5 n5 c5))
      clear hc5 hf5 hown5 HA5 HA4 HO4 HN5 HV5
      change Code.wp _ _ _ _ (W5.setCell ⟨j.qb, qi, none⟩ (.slice A5 n5 c5))
      generalize W5.setCell ⟨j.qb, qi, none⟩ (.slice A5 n5 c5) = W6 at *
      have x6 : W6.drew.cell? ⟨j.mb, 6, none⟩ = some (.slice (some ⟨j.eb, 0, none⟩) 64 64) := HA6.out.c6
      have x7 : W6.drew.cell? ⟨j.mb, 7, none⟩ = some (.int .i64 s.now) := HA6.out.c7
      have x1 : W6.drew.cell? ⟨j.mb, 1, none⟩ = some (.int .i64 P.life) := HA6.out.box.cellAt rfl
      have hnw := HNW.out
      have ew : IntKind.i64.wrap (s.now + P.life) = s.now + P.life := by rw [IntKind.wrap_i64]; omega
      refine wp_region_tail (S := (fun w' : World => w' = W6.drew)) 14 (by kernel_rfl) (by kernel_rfl) ?_ ?_
      · rfl
      intro hSS
      refine wpHd_take (i := 0) (v := ?_) (by kernel_rfl) rfl (by kernel_rfl) (fun _ _ _ h => h) (.inl ⟨by rfl, ?_⟩) hSS ?_
      rotate_left
      · intro w hSw; (try dsimp only at hSw); go_simp; (try with_reducible rfl)
      refine wpHd_take (i := 1) (v := ?_) (by kernel_rfl) rfl (by kernel_rfl) (fun _ _ _ h => h) (.inl ⟨by rfl, ?_⟩) hSS ?_
      rotate_left
      · intro w hSw; (try dsimp only at hSw); go_simp; (try with_reducible rfl)
      refine wpHd_take (i := 2) (v := ?_) (by kernel_rfl) rfl (by kernel_rfl) (fun _ _ _ h => h) (.inl ⟨by rfl, ?_⟩) hSS ?_
      rotate_left
      · intro w hSw; (try dsimp only at hSw); go_simp; (try with_reducible rfl)
      refine wpHd_take (i := 3) (v := ?_) (by kernel_rfl) rfl (by kernel_rfl) (fun _ _ _ h => h) (.inl ⟨by rfl, ?_⟩) hSS ?_
      rotate_left
      · intro w hSw; (try dsimp only at hSw); go_simp; (try with_reducible rfl)
      refine wpHd_take (i := 4) (v := ?_) (by kernel_rfl) rfl (by kernel_rfl) (fun _ _ _ h => h) (.inl ⟨by rfl, ?_⟩) hSS ?_
      rotate_left
      · intro w hSw; (try dsimp only at hSw); go_simp; (try with_reducible rfl)
      try simp only [Act.put, List.getElem_toArray, List.getElem_cons_succ, List.getElem_cons_zero, List.setIfInBounds_toArray, List.set_cons_zero, List.set_cons_succ]
      refine wpHd_take (i := 5) (v := ?_) (by kernel_rfl) rfl (by kernel_rfl) (fun _ _ _ h => h) (.inl ⟨by rfl, ?_⟩) hSS ?_
      rotate_left
      · intro w hSw; (try dsimp only at hSw); go_simp; (try with_reducible rfl)
      refine wpHd_take (i := 6) (v := ?_) (by kernel_rfl) rfl (by kernel_rfl) (fun _ _ _ h => h) (.inl ⟨by rfl, ?_⟩) hSS ?_
      rotate_left
      · intro w hSw; (try dsimp only at hSw); go_simp; (try with_reducible rfl)
      refine wpHd_take (i := 7) (v := ?_) (by kernel_rfl) rfl (by kernel_rfl) (fun _ _ _ h => h) (.inl ⟨by rfl, ?_⟩) hSS ?_
      rotate_left
      · intro w hSw; (try dsimp only at hSw); go_simp; (try with_reducible rfl)
      refine wpHd_take (i := 8) (v := ?_) (by kernel_rfl) rfl (by kernel_rfl) (fun _ _ _ h => h) (.inl ⟨by rfl, ?_⟩) hSS ?_
      rotate_left
      · intro w hSw; (try dsimp only at hSw); go_simp; (try with_reducible rfl)
      refine wpHd_take (i := 9) (v := ?_) (by kernel_rfl) rfl (by kernel_rfl) (fun _ _ _ h => h) (.inl ⟨by rfl, ?_⟩) hSS ?_
      rotate_left
      · intro w hSw; (try dsimp only at hSw); go_simp; (try with_reducible rfl)
      try simp only [Act.put, List.getElem_toArray, List.getElem_cons_succ, List.getElem_cons_zero, List.setIfInBounds_toArray, List.set_cons_zero, List.set_cons_succ]
      refine wpHd_take (i := 10) (v := ?_) (by kernel_rfl) rfl (by kernel_rfl) (fun _ _ _ h => h) (.inl ⟨by rfl, ?_⟩) hSS ?_
      rotate_left
      · intro w hSw; (try dsimp only at hSw); go_simp; (try with_reducible rfl)
      refine wpHd_take (i := 11) (v := ?_) (by kernel_rfl) rfl (by kernel_rfl) (fun _ _ _ h => h) (.inl ⟨by rfl, ?_⟩) hSS ?_
      rotate_left
      · intro w hSw; (try dsimp only at hSw); go_simp; (try with_reducible rfl)
      refine wpHd_take (i := 12) (v := ?_) (by kernel_rfl) rfl (by kernel_rfl) (fun _ _ _ h => h) (.inl ⟨by rfl, ?_⟩) hSS ?_
      rotate_left
      · intro w hSw; (try dsimp only at hSw); go_simp; (try with_reducible rfl)
      refine wpHd_take (i := 13) (v := ?_) (by kernel_rfl) rfl (by kernel_rfl) (fun _ _ _ h => h) (.inl ⟨by rfl, ?_⟩) hSS ?_
      rotate_left
      · intro w hSw; (try dsimp only at hSw); go_simp; (try with_reducible rfl)
      try simp only [Act.put, List.getElem_toArray, List.getElem_cons_succ, List.getElem_cons_zero, List.setIfInBounds_toArray, List.set_cons_zero, List.set_cons_succ]
      refine wpHd_end (by kernel_rfl) ?_
      have hbn := HBN.out
      have hn64 := HN64.out
      have xe : W6.drew.cell? ⟨j.eb, n, none⟩ = some (.int .i64 (s.exp n)) := HA6.out.ex.cellAt (fiC_at _ HN64.out)
      have xf : W6.drew.frozen? ⟨j.eb, n, none⟩ = false := HA6.out.ex.free n
      have hni : (n : Int) < 64 := by omega
      subst hbn
      clear hSS x6 x7 x1
      go_wp2
      (try simp only [Exit.inBlock, Exit.then])
      refine bodyPost_end (results_none rfl _ _ _) rfl ?_
      have h9 := HA6.out.sete hn64 (s.now + P.life) HQ0.out
      have o9 := HO6.out.setCell (p := ⟨j.eb, n, none⟩) (.inl (.inr (.inr (.inr rfl)))) (.int .i64 (s.now + P.life))
      exact ⟨rfl, ⟨_, _, h9.keep ((Only.refl Non _).drew)⟩, o9.drew⟩
end
theorem lst_getD {l : List Int} {L : Nat} (h : l.length = L + 1) : l.getD L 0 = lst l := by
  unfold lst
  rw [List.getLastD_eq_getLast?, List.getLast?_eq_getElem?, h, List.getD_eq_getElem?_getD]
  have h1 : L < l.length := by omega
  simp [h1]
def UqRel (c : Nat) (qv nv : Value) (W wr : World) : Prop := ∃ k m : Nat, 1 ≤ m ∧ m ≤ c ∧ k + Lib.bitLen m = Lib.bitLen c ∧ qv = .int .i64 k ∧ nv = .int .i64 m ∧ W = wr
def UaRel (j : RmqJ) (P : MqP) (s1 : MqS) (w : World) (iv : Value) (wr : World) : Prop :=
  ∃ k : Nat, 1 ≤ k ∧ k ≤ P.q ∧ iv = .int .i64 k ∧ RMq j P (mqAgeN P s1 (k - 1)) wr ∧ Only (RF j) w wr
section
set_option maxHeartbeats 4000000
set_option maxRecDepth 100000
variable {j : RmqJ} {P : MqP} {s : MqS} {w : World}
theorem rmq_used {n : Nat} (h : RMq j P s w) (hok : MqOk P s) (hP : P.Ok) (hn : n < 64) (hob : s.often n + 1 ≤ s.now) (hnow : s.now ≤ 2000000000) :
    Calls Tryz.prog 268 #[.pointer (some ⟨j.mb, 0, none⟩), .int .i64 n] w fun e w' => e = .returned (.tuple #[]) ∧ RMq j P (mqUsed P s n) w' ∧ Only (RF j) w w' := by
  obtain ⟨gv, qv0, hA0⟩ := h
  have hni : (n : Int) < 64 := by omega
  have hq8 := hP.q8
  have HQ1 := Lib.hid hP.q1
  have HN64 := Lib.hid hn
  have HP := Lib.hid hP
  have HK := Lib.hid (show MqOk P (mqPlace P (mqMore s n) n) from placed_ok hP hok hob (by omega) hni)
  have HDJ := Lib.hid (show MqOk P (mqMore s n) from ⟨hok.dj, hok.now, fun b => by
    have := hok.often b
    show 0 ≤ updI s.often n _ b ∧ updI s.often n _ b ≤ s.now
    unfold updI
    split
    · rename_i e; subst e; omega
    · exact this⟩)
  have HNW := Lib.hid (show 0 ≤ (mqPlace P (mqMore s n) n).now ∧ (mqPlace P (mqMore s n) n).now ≤ 4000000000 from ⟨hok.now, by show s.now ≤ _; omega⟩)
  have HEND := Lib.hid (show mqUsed P s n = mqAgeN P (mqPlace P (mqMore s n) n) (P.q - 1) from rfl)
  have HPL := Lib.hid (show mqPlace P (mqMore s n) n = mqFront P (mqMore s n) (mqQ P (s.often n + 1)) n by unfold mqPlace; show mqFront P (mqMore s n) (mqQ P (updI s.often n (s.often n + 1) n)) n = _; unfold updI; rw [if_pos rfl])
  obtain ⟨c, hc⟩ := Int.eq_ofNat_of_zero_le (show 0 ≤ s.often n + 1 by have := hok.often n; omega)
  have hc1 : 1 ≤ c := by have := hok.often n; omega
  have hc2 : c ≤ 2000000000 := by omega
  have HC1 := Lib.hid hc1
  rw [hc] at HPL
  have HQQ := Lib.hid (show mqQ P (c : Int) = min (Lib.bitLen c - 1) (P.q - 1) from rfl)
  have hcw : IntKind.i64.wrap (s.often n + 1) = c := by rw [IntKind.wrap_i64]; omega
  have x5 := hA0.c5
  have xo : w.cell? ⟨j.ob, n, none⟩ = some (.int .i64 (s.often n)) := hA0.of.cellAt (fiC_at _ hn)
  have xof : w.frozen? ⟨j.ob, n, none⟩ = false := hA0.of.free n
  have HA1 := Lib.hid (show RMq j P (mqMore s n) (w.setCell ⟨j.ob, n, none⟩ (.int .i64 c)) from ⟨gv, qv0, by have := hA0.seto hn (s.often n + 1) HQ1.out; rw [hc] at this; show RMqA j P gv qv0 { s with often := updI s.often n (s.often n + 1) } _; rw [hc]; exact this⟩)
  have HWO := Lib.hid (show Only (RF j) w (w.setCell ⟨j.ob, n, none⟩ (.int .i64 c)) from (Only.refl _ w).setCell (p := ⟨j.ob, n, none⟩) (.inl (.inr (.inr (.inl rfl)))) _)
  have HMN := Lib.hid (show 0 ≤ (mqMore s n).now ∧ (mqMore s n).now ≤ 4000000000 from ⟨hok.now, by show s.now ≤ _; omega⟩)
  generalize mqPlace P (mqMore s n) n = s1 at *
  clear hA0 hok hob hP hn hnow hc1
  go_enter Tryz.func268, Tryz.ntmps268
  go_upto_region 2 with fail
  clear x5 xo xof
  change Code.wp _ _ _ _ (w.setCell ⟨j.ob, n, none⟩ (.int .i64 c))
  generalize w.setCell ⟨j.ob, n, none⟩ (.int .i64 c) = W1 at *
  obtain ⟨gv, qv1, hA1⟩ := HA1.out
  have y5 := hA1.c5
  have yo : W1.cell? ⟨j.ob, n, none⟩ = some (.int .i64 c) := by
    have h1 : W1.cell? ⟨j.ob, n, none⟩ = some (.int .i64 (updI s.often n (s.often n + 1) n)) := hA1.of.cellAt (fiC_at _ HN64.out)
    unfold updI at h1
    rw [if_pos rfl, hc] at h1
    exact h1
  have y3 := hA1.c3
  clear hA1 hc
  go_upto_region 3 with fail
  go_loopw [4, 5] (fun qv nv wr => UqRel c qv nv W1 wr) (fun _ nv _ => (intOf nv).toNat)
  case atStart => exact ⟨0, c, HC1.out, Nat.le_refl _, Nat.zero_add _, rfl, rfl, rfl⟩
  case round =>
    obtain ⟨k, m, hm1, hmc, hkm, rfl, rfl, rfl⟩ := hrel
    have hbl := Lib.bitLen_half m (by omega) (by omega)
    by_cases hlt : 1 < m
    · have hlti : (1 : Int) < m := by omega
      have hk64 : k ≤ 64 := by have := bitLen_le c; omega
      have hkw : IntKind.i64.wrap ((k : Int) + 1) = (k : Int) + 1 := by rw [IntKind.wrap_i64]; omega
      have hdv : wrap64 ((m : Int) / 2) = ((m / 2 : Nat) : Int) := by unfold wrap64; omega
      have HM := Lib.hid (show 1 ≤ m / 2 ∧ m / 2 ≤ c ∧ k + 1 + Lib.bitLen (m / 2) = Lib.bitLen c ∧ m / 2 < m from ⟨by omega, by omega, by omega, by omega⟩)
      have HDV := Lib.hid hdv
      have HMS := Lib.hid (show (intOf (Value.int .i64 ((m / 2 : Nat) : Int))).toNat < (intOf (Value.int .i64 (m : Int))).toNat by show m / 2 < m; omega)
      clear hbl hkm hm1 hmc hlt hdv
      go_wp2
      go_roundw
      case rel => exact ⟨k + 1, m / 2, HM.out.1, HM.out.2.1, HM.out.2.2.1, by push_cast; rfl, by rw [HDV.out], rfl⟩
      case measure => rw [HDV.out]; exact HMS.out
    · obtain rfl : m = 1 := by omega
      have h1 : Lib.bitLen 1 = 1 := by rfl
      rw [h1] at hkm
      have hk64 : k ≤ 64 := by have := bitLen_le c; omega
      have hqw : IntKind.i64.wrap ((P.q : Int) - 1) = (P.q : Int) - 1 := by rw [IntKind.wrap_i64]; omega
      have hqq : mqQ P (c : Int) = min k (P.q - 1) := by rw [HQQ.out]; congr 1; omega
      clear hbl hm1 hmc hkm h1 hlt
      by_cases hkq : k ≤ P.q - 1
      · have hkqi : (k : Int) ≤ (P.q : Int) - 1 := by have := HQ1.out; omega
        have HF := Lib.hid (rmq_first (qi := k) (n := n) HA1.out HDJ.out.dj HP.out (by have := HQ1.out; omega) HN64.out HMN.out)
        rw [show mqFront P (mqMore s n) k n = s1 by rw [HPL.out, hqq, Nat.min_eq_left hkq]] at HF
        clear hkq hqq
        go_upto_region 10 with (go_at_call 294; refine HF.out.mono ?_; rintro e W2 ⟨rfl, hr2, ho2⟩; have HB1 := Lib.hid hr2; have HBO1 := Lib.hid (HWO.out.trans ho2); clear hr2 ho2)
        go_loopw [6] (fun iv wr => UaRel j P s1 w iv wr) (fun iv _ => P.q - (intOf iv).toNat)
        case atStart => exact ⟨1, Nat.le_refl _, HQ1.out, rfl, HB1.out, HBO1.out⟩
        case round =>
          clear HB1 HBO1
          obtain ⟨k, hk1, hk, rfl, hm, ho⟩ := hrel
          obtain ⟨gv, qv, hA⟩ := hm
          have HA := Lib.hid hA
          have HO := Lib.hid ho
          have HK1 := Lib.hid hk1
          have x3 := hA.c3
          clear hA ho
          by_cases hlt : k < P.q
          · have hlti : (k : Int) < P.q := by omega
            have HLT := Lib.hid hlt
            have HST := Lib.hid (ageN_same HK.out (k - 1) (by omega))
            have hT : mqAgeN P s1 k = mqAge1 P (mqAgeN P s1 (k - 1)) k := by
              obtain ⟨m, rfl⟩ : ∃ m, k = m + 1 := ⟨k - 1, by omega⟩
              rfl
            have HT := Lib.hid hT
            have hnw : (mqAgeN P s1 (k - 1)).now = s1.now := HST.out.now
            have HNX := Lib.hid hnw
            clear hT hnw
            generalize mqAgeN P s1 (k - 1) = sk at *
            have hcq := (HA.out.cq hlt).1
            have hown := HA.out.q k hlt
            obtain ⟨A, c, eq, h1, h2⟩ := hown.shape
            have hat := hown.at
            rw [eq] at hcq hat
            have hk1i : IntKind.i64.wrap ((k : Int) + 1) = (k : Int) + 1 := by rw [IntKind.wrap_i64]; omega
            by_cases hS : sk.S k = []
            · have HD := Lib.hid (show mqAge1 P sk k = sk by unfold mqAge1 mqDown; rw [if_neg (by simp [hS])])
              have hz : (sk.S k).length = 0 := by rw [hS]; rfl
              rw [hz] at hcq
              clear hown eq h1 h2 hat hS hz hlt hk
              go_upto_region 13 with fail
              go_quiet (fail)
              go_wp2
              go_roundw
              case rel => exact ⟨k + 1, by omega, HLT.out, by push_cast; rfl, by show RMq j P (mqAgeN P s1 k) _; rw [HT.out, HD.out]; exact ⟨gv, qv, HA.out.keep ((Only.refl Non _).drewN _)⟩, HO.out.drewN _⟩
              case measure => simp [intOf]; have := HLT.out; omega
            · have hin := lst_in hS
              have hrg := HST.out.ok.dj.rng hin
              have h64 := len64 (i := k) HST.out.ok.dj
              obtain ⟨L, hL⟩ : ∃ L, (sk.S k).length = L + 1 := ⟨(sk.S k).length - 1, by have := List.length_pos_iff.2 hS; omega⟩
              have hgd : (sk.S k).getD L 0 = lst (sk.S k) := lst_getD hL
              obtain ⟨g, o, rfl, hcl⟩ := hat.cellAt (i := L) (by omega)
              rw [hgd] at hcl
              rw [hL] at hcq
              have HLS := Lib.hid (show mqDown sk k = decide (sk.exp (lst (sk.S k)) < sk.now) by unfold mqDown; simp [hS])
              have HA1 := Lib.hid (show mqAge1 P sk k = if mqDown sk k = true then mqFront P sk (k - 1) (lst (sk.S k)) else sk from rfl)
              clear hown eq h1 h2 hat hS hk hin hgd
              generalize lst (sk.S k) = b at *
              obtain ⟨m, rfl⟩ := Int.eq_ofNat_of_zero_le hrg.1
              have hm64 : m < 64 := by omega
              have HM64 := Lib.hid hm64
              have xe : wr.cell? ⟨j.eb, m, none⟩ = some (.int .i64 (sk.exp m)) := HA.out.ex.cellAt (fiC_at _ hm64)
              have x6 := HA.out.c6
              have x7 := HA.out.c7
              have hm1 : (m : Int) < 64 := by omega
              have hL1 : (L : Int) < (L : Int) + 1 := by omega
              have hLp : (0 : Int) < (L : Int) + 1 := by omega
              have hLw : IntKind.i64.wrap ((L : Int) + 1 - 1) = L := by rw [IntKind.wrap_i64]; omega
              have hLL : L < 64 := by omega
              have hkw : IntKind.i64.wrap ((k : Int) - 1) = (k : Int) - 1 := by rw [IntKind.wrap_i64]; omega
              clear hrg hm64 h64
              by_cases hd : sk.exp m < sk.now
              · have HD := Lib.hid (show mqAge1 P sk k = mqFront P sk (k - 1) m by rw [HA1.out, if_pos (by rw [HLS.out]; exact decide_eq_true hd)])
                have HF := Lib.hid (fun q => rmq_first (qi := k - 1) (n := m) (w := wr.drewN q) ⟨gv, qv, HA.out.keep ((Only.refl Non wr).drewN q)⟩ HST.out.ok.dj HP.out (by have := HLT.out; omega) HM64.out (by rw [HNX.out]; exact HNW.out))
                rw [show ((k - 1 : Nat) : Int) = (k : Int) - 1 by omega] at HF
                generalize hex : sk.exp m = ex at *
                generalize hnw : sk.now = nw at *
                clear hex hnw HA1 HLS
                go_upto_region 13 with fail
                go_quiet (fail)
                have x3q : (wr.drewN nq).cell? ⟨j.mb, 3, none⟩ = some (.slice (some ⟨j.qb, 0, none⟩) P.q j.qc) := x3
                have hcqq : (wr.drewN nq).cell? ⟨j.qb, k, none⟩ = some (.slice (some ⟨g, o, none⟩) (L + 1) c) := hcq
                have hclq : (wr.drewN nq).cell? ⟨g, o + L, none⟩ = some (.int .i64 m) := hcl
                have HFQ := Lib.hid (HF.out nq)
                have HOQ := Lib.hid (HO.out.drewN nq)
                clear x3 x6 x7 xe hcq hcl HF HO HA
                generalize wr.drewN nq = W1 at *
                go_wp2_with (go_at_call 294; refine HFQ.out.mono ?_; rintro e W2 ⟨rfl, hr2, ho2⟩; have HR2 := Lib.hid hr2; have HO2 := Lib.hid ho2; clear hr2 ho2)
                go_roundw
                case rel => exact ⟨k + 1, by omega, HLT.out, by push_cast; rfl, by show RMq j P (mqAgeN P s1 k) _; rw [HT.out, HD.out]; exact HR2.out, HOQ.out.trans HO2.out⟩
                case measure => simp [intOf]; have := HLT.out; omega
              · have HD := Lib.hid (show mqAge1 P sk k = sk by rw [HA1.out, if_neg (by rw [HLS.out]; simpa using hd)])
                generalize hex : sk.exp m = ex at *
                generalize hnw : sk.now = nw at *
                clear hex hnw HA1 HLS
                have hdn : nw ≤ ex := by omega
                clear hd
                go_upto_region 13 with fail
                go_quiet (fail)
                go_wp2
                go_roundw
                case rel => exact ⟨k + 1, by omega, HLT.out, by push_cast; rfl, by show RMq j P (mqAgeN P s1 k) _; rw [HT.out, HD.out]; exact ⟨gv, qv, HA.out.keep ((Only.refl Non _).drewN _)⟩, HO.out.drewN _⟩
                case measure => simp [intOf]; have := HLT.out; omega
          · obtain rfl : k = P.q := by omega
            clear hlt hk
            go_wp2_with fail
            go_end0
            exact ⟨rfl, by rw [HEND.out]; exact ⟨gv, qv, HA.out⟩, HO.out⟩
      · have hkqi : (P.q : Int) - 1 < k := by have := HQ1.out; omega
        have HF := Lib.hid (rmq_first (qi := P.q - 1) (n := n) HA1.out HDJ.out.dj HP.out (by have := HQ1.out; omega) HN64.out HMN.out)
        rw [show mqFront P (mqMore s n) (P.q - 1) n = s1 by rw [HPL.out, hqq, Nat.min_eq_right (by omega)], show ((P.q - 1 : Nat) : Int) = (P.q : Int) - 1 by have := HQ1.out; omega] at HF
        clear hkq hqq
        go_upto_region 10 with (go_at_call 294; refine HF.out.mono ?_; rintro e W2 ⟨rfl, hr2, ho2⟩; have HB1 := Lib.hid hr2; have HBO1 := Lib.hid (HWO.out.trans ho2); clear hr2 ho2)
        go_loopw [6] (fun iv wr => UaRel j P s1 w iv wr) (fun iv _ => P.q - (intOf iv).toNat)
        case atStart => exact ⟨1, Nat.le_refl _, HQ1.out, rfl, HB1.out, HBO1.out⟩
        case round =>
          clear HB1 HBO1
          obtain ⟨k, hk1, hk, rfl, hm, ho⟩ := hrel
          obtain ⟨gv, qv, hA⟩ := hm
          have HA := Lib.hid hA
          have HO := Lib.hid ho
          have HK1 := Lib.hid hk1
          have x3 := hA.c3
          clear hA ho
          by_cases hlt : k < P.q
          · have hlti : (k : Int) < P.q := by omega
            have HLT := Lib.hid hlt
            have HST := Lib.hid (ageN_same HK.out (k - 1) (by omega))
            have hT : mqAgeN P s1 k = mqAge1 P (mqAgeN P s1 (k - 1)) k := by
              obtain ⟨m, rfl⟩ : ∃ m, k = m + 1 := ⟨k - 1, by omega⟩
              rfl
            have HT := Lib.hid hT
            have hnw : (mqAgeN P s1 (k - 1)).now = s1.now := HST.out.now
            have HNX := Lib.hid hnw
            clear hT hnw
            generalize mqAgeN P s1 (k - 1) = sk at *
            have hcq := (HA.out.cq hlt).1
            have hown := HA.out.q k hlt
            obtain ⟨A, c, eq, h1, h2⟩ := hown.shape
            have hat := hown.at
            rw [eq] at hcq hat
            have hk1i : IntKind.i64.wrap ((k : Int) + 1) = (k : Int) + 1 := by rw [IntKind.wrap_i64]; omega
            by_cases hS : sk.S k = []
            · have HD := Lib.hid (show mqAge1 P sk k = sk by unfold mqAge1 mqDown; rw [if_neg (by simp [hS])])
              have hz : (sk.S k).length = 0 := by rw [hS]; rfl
              rw [hz] at hcq
              clear hown eq h1 h2 hat hS hz hlt hk
              go_upto_region 13 with fail
              go_quiet (fail)
              go_wp2
              go_roundw
              case rel => exact ⟨k + 1, by omega, HLT.out, by push_cast; rfl, by show RMq j P (mqAgeN P s1 k) _; rw [HT.out, HD.out]; exact ⟨gv, qv, HA.out.keep ((Only.refl Non _).drewN _)⟩, HO.out.drewN _⟩
              case measure => simp [intOf]; have := HLT.out; omega
            · have hin := lst_in hS
              have hrg := HST.out.ok.dj.rng hin
              have h64 := len64 (i := k) HST.out.ok.dj
              obtain ⟨L, hL⟩ : ∃ L, (sk.S k).length = L + 1 := ⟨(sk.S k).length - 1, by have := List.length_pos_iff.2 hS; omega⟩
              have hgd : (sk.S k).getD L 0 = lst (sk.S k) := lst_getD hL
              obtain ⟨g, o, rfl, hcl⟩ := hat.cellAt (i := L) (by omega)
              rw [hgd] at hcl
              rw [hL] at hcq
              have HLS := Lib.hid (show mqDown sk k = decide (sk.exp (lst (sk.S k)) < sk.now) by unfold mqDown; simp [hS])
              have HA1 := Lib.hid (show mqAge1 P sk k = if mqDown sk k = true then mqFront P sk (k - 1) (lst (sk.S k)) else sk from rfl)
              clear hown eq h1 h2 hat hS hk hin hgd
              generalize lst (sk.S k) = b at *
              obtain ⟨m, rfl⟩ := Int.eq_ofNat_of_zero_le hrg.1
              have hm64 : m < 64 := by omega
              have HM64 := Lib.hid hm64
              have xe : wr.cell? ⟨j.eb, m, none⟩ = some (.int .i64 (sk.exp m)) := HA.out.ex.cellAt (fiC_at _ hm64)
              have x6 := HA.out.c6
              have x7 := HA.out.c7
              have hm1 : (m : Int) < 64 := by omega
              have hL1 : (L : Int) < (L : Int) + 1 := by omega
              have hLp : (0 : Int) < (L : Int) + 1 := by omega
              have hLw : IntKind.i64.wrap ((L : Int) + 1 - 1) = L := by rw [IntKind.wrap_i64]; omega
              have hLL : L < 64 := by omega
              have hkw : IntKind.i64.wrap ((k : Int) - 1) = (k : Int) - 1 := by rw [IntKind.wrap_i64]; omega
              clear hrg hm64 h64
              by_cases hd : sk.exp m < sk.now
              · have HD := Lib.hid (show mqAge1 P sk k = mqFront P sk (k - 1) m by rw [HA1.out, if_pos (by rw [HLS.out]; exact decide_eq_true hd)])
                have HF := Lib.hid (fun q => rmq_first (qi := k - 1) (n := m) (w := wr.drewN q) ⟨gv, qv, HA.out.keep ((Only.refl Non wr).drewN q)⟩ HST.out.ok.dj HP.out (by have := HLT.out; omega) HM64.out (by rw [HNX.out]; exact HNW.out))
                rw [show ((k - 1 : Nat) : Int) = (k : Int) - 1 by omega] at HF
                generalize hex : sk.exp m = ex at *
                generalize hnw : sk.now = nw at *
                clear hex hnw HA1 HLS
                go_upto_region 13 with fail
                go_quiet (fail)
                have x3q : (wr.drewN nq).cell? ⟨j.mb, 3, none⟩ = some (.slice (some ⟨j.qb, 0, none⟩) P.q j.qc) := x3
                have hcqq : (wr.drewN nq).cell? ⟨j.qb, k, none⟩ = some (.slice (some ⟨g, o, none⟩) (L + 1) c) := hcq
                have hclq : (wr.drewN nq).cell? ⟨g, o + L, none⟩ = some (.int .i64 m) := hcl
                have HFQ := Lib.hid (HF.out nq)
                have HOQ := Lib.hid (HO.out.drewN nq)
                clear x3 x6 x7 xe hcq hcl HF HO HA
                generalize wr.drewN nq = W1 at *
                go_wp2_with (go_at_call 294; refine HFQ.out.mono ?_; rintro e W2 ⟨rfl, hr2, ho2⟩; have HR2 := Lib.hid hr2; have HO2 := Lib.hid ho2; clear hr2 ho2)
                go_roundw
                case rel => exact ⟨k + 1, by omega, HLT.out, by push_cast; rfl, by show RMq j P (mqAgeN P s1 k) _; rw [HT.out, HD.out]; exact HR2.out, HOQ.out.trans HO2.out⟩
                case measure => simp [intOf]; have := HLT.out; omega
              · have HD := Lib.hid (show mqAge1 P sk k = sk by rw [HA1.out, if_neg (by rw [HLS.out]; simpa using hd)])
                generalize hex : sk.exp m = ex at *
                generalize hnw : sk.now = nw at *
                clear hex hnw HA1 HLS
                have hdn : nw ≤ ex := by omega
                clear hd
                go_upto_region 13 with fail
                go_quiet (fail)
                go_wp2
                go_roundw
                case rel => exact ⟨k + 1, by omega, HLT.out, by push_cast; rfl, by show RMq j P (mqAgeN P s1 k) _; rw [HT.out, HD.out]; exact ⟨gv, qv, HA.out.keep ((Only.refl Non _).drewN _)⟩, HO.out.drewN _⟩
                case measure => simp [intOf]; have := HLT.out; omega
          · obtain rfl : k = P.q := by omega
            clear hlt hk
            go_wp2_with fail
            go_end0
            exact ⟨rfl, by rw [HEND.out]; exact ⟨gv, qv, HA.out⟩, HO.out⟩
end
theorem wp_ownapp {P : Program} (w : World) {o : Oper} {a : Act} {K : Act → World → Prop} {Q : Exit → Act → World → Prop} (s x : Operand) (t e : TypeId)
    (ho : o.op = .call { callee := .builtin .append, args := #[s, x], argTypes := #[t, t] })
    (hinfo : (P.info? e).map (fun i => (i.zero, i.size, i.bytes)) = some (some (.int .i64 0), 1, 8)) (ht : P.underlying t = some (.slice e))
    (base : Nat) (v : Value) (l : List Int) (hs : a.eval s = v) (hown : OwnInts e w base v l) (base' : Nat) (u : Value) (l' : List Int) (hx : a.eval x = u) (hu : OwnInts e w base' u l') (hlen : l.length + l'.length ≤ 1000000) (hbase : base ≤ w.heap.size)
    (h : ∀ v' w', OwnInts e w' base v' (l ++ l') → Only (ownB v) w w' → K (a.put o.dst v') w') : o.wp P a w K Q := by
  rcases hu.2 with ⟨rfl, h0⟩ | ⟨g, cap, cur, rfl, hb, hg, hn, hm, hsz, htk⟩
  · obtain rfl : l' = [] := List.eq_nil_of_length_eq_zero h0
    have hr := run_append_none (P := P) w t o.type e hinfo ht hown
    unfold Oper.wp execOp
    simp only [ho, resolve, invoke, builtin, Sem.run_bind, Sem.run_pure, Result.andThen_ok, List.map_toArray, List.map_cons, List.map_nil, hs, hx, hr]
    exact h v w (by rw [List.append_nil]; exact hown) (Only.refl _ _)
  · obtain ⟨i0, hi, hz0, hz1, hz2⟩ := info_parts hinfo
    have hcl := fun j u hj => World.ownsRow.cells hu (g := g) rfl j u hj
    obtain ⟨v', w', hr, h2, h3, _, h5⟩ := run_append_own_at (P := P) w base t o.type e i0 _ 1 8 ht hi hz0 hz1 hz2 rfl (by decide) v l.length (l.map (Value.int .i64)) hown ⟨g, 0, none⟩ l'.length cap (l'.map (Value.int .i64)) (by simp) (fun j u hj => hcl j u hj) (fun u hu => by obtain ⟨z, _, rfl⟩ := List.mem_map.1 hu; rfl) (by unfold maxLen; omega) (by omega) hbase
    unfold Oper.wp execOp
    simp only [ho, resolve, invoke, builtin, Sem.run_bind, Sem.run_pure, Result.andThen_ok, List.map_toArray, List.map_cons, List.map_nil, hs, hx, hr]
    refine h v' w' ?_ ((Only.refl _ _).grown h3 fun k hk => .inl hk)
    unfold OwnInts
    rw [List.map_append, List.length_append]
    exact h2
theorem one_mem {P : MqP} {s : MqS} {b : Int} (h : b ∈ mqAll P s) : ∃ i, i < P.q ∧ b ∈ s.S i := mem_all.1 h
theorem mqRem_eq {P : MqP} {s : MqS} {b : Int} (h : MqOk P s) {i : Nat} (hi : b ∈ s.S i) (k : Nat) : updN s.S i ((s.S i).erase b) k = eraS s.S b k := by
  unfold updN eraS
  by_cases e : k = i
  · rw [if_pos e, e]
  · rw [if_neg e, List.erase_of_not_mem fun h2 => e (h.dj.dj h2 hi)]
def RalRel (P : MqP) (s : MqS) (w : World) (v i : Value) (wr : World) : Prop :=
  ∃ (k : Nat) (L : List Int), k ≤ P.q ∧ i = .int .i64 k ∧ L ++ mqFrom s.S (P.q - k) = mqAll P s ∧ OwnInts 3 wr w.heap.size v L ∧ Only Non w wr
section
set_option maxHeartbeats 4000000
set_option maxRecDepth 100000
variable {j : RmqJ} {P : MqP} {s : MqS} {w : World}
theorem rmq_use_no {b : Int} (h : RMq j P s w) (hq : P.q ≤ 8) (hb : b ∉ mqAll P s) :
    Calls Tryz.prog 221 #[.pointer (some ⟨j.mb, 0, none⟩), .int .i64 b] w fun e w' => e = .returned (.bool false) ∧ w = w' := by
  have HO := Lib.hid (rmq_of_no h hq fun i hi h2 => hb (mem_all.2 ⟨i, hi, h2⟩))
  clear h hb
  go_enter Tryz.func221, Tryz.ntmps221
  go_wp2_with (go_at_call 267; refine HO.out.mono ?_; rintro e W1 ⟨rfl, rfl⟩)
  go_ret
  exact ⟨rfl, rfl⟩
theorem rmq_use_in {n : Nat} (h : RMq j P s w) (hok : MqOk P s) (hP : P.Ok) (h1 : s.now ≤ 1000000000) (hb : (n : Int) ∈ mqAll P s) :
    Calls Tryz.prog 221 #[.pointer (some ⟨j.mb, 0, none⟩), .int .i64 n] w fun e w' => e = .returned (.bool true) ∧ RMq j P (mqUse P s n) w' ∧ Only (RF j) w w' := by
  obtain ⟨i, hi, hbi⟩ := one_mem hb
  have hn := hok.dj.rng hbi
  have HO := Lib.hid (rmq_of_in h hok.dj hP.q8 hi hbi)
  obtain ⟨gv, qv, hA⟩ := h
  have x7 := hA.c7
  have xf := hA.box.free 7
  have hnw := hok.now
  have hw : IntKind.i64.wrap (s.now + 1) = s.now + 1 := by rw [IntKind.wrap_i64]; omega
  have HA1 := Lib.hid (show RMq j P (mqTick s) (w.setCell ⟨j.mb, 7, none⟩ (.int .i64 (s.now + 1))) from ⟨gv, qv, hA.setn (s.now + 1) hP.q1⟩)
  have HWO := Lib.hid (show Only (RF j) w (w.setCell ⟨j.mb, 7, none⟩ (.int .i64 (s.now + 1))) from (Only.refl _ w).setCell (p := ⟨j.mb, 7, none⟩) (.inl (.inl rfl)) _)
  have HU := Lib.hid (rmq_used (n := n) HA1.out (tick_ok hok) hP (by omega) (by have := (hok.often n).2; show s.often n + 1 ≤ s.now + 1; omega) (by show s.now + 1 ≤ _; omega))
  have hi8 : (i : Int) < 8 := by have := hP.q8; omega
  clear hA hok hP hb hbi hi hn
  go_enter Tryz.func221, Tryz.ntmps221
  go_upto_region 4 with (go_at_call 267; refine HO.out.mono ?_; rintro e W1 ⟨rfl, rfl⟩)
  clear x7 xf HO
  change Code.wp _ _ _ _ (w.setCell ⟨j.mb, 7, none⟩ (.int .i64 (s.now + 1)))
  generalize w.setCell ⟨j.mb, 7, none⟩ (.int .i64 (s.now + 1)) = W1 at *
  go_wp2_with (go_at_call 268; refine HU.out.mono ?_; rintro e W2 ⟨rfl, hr2, ho2⟩)
  go_ret
  exact ⟨rfl, hr2, HWO.out.trans ho2⟩
theorem rmq_rem_no {b : Int} (h : RMq j P s w) (hq : P.q ≤ 8) (hb : b ∉ mqAll P s) :
    Calls Tryz.prog 223 #[.pointer (some ⟨j.mb, 0, none⟩), .int .i64 b] w fun e w' => e = .returned (.bool false) ∧ w = w' := by
  have HO := Lib.hid (rmq_of_no h hq fun i hi h2 => hb (mem_all.2 ⟨i, hi, h2⟩))
  clear h hb
  go_enter Tryz.func223, Tryz.ntmps223
  go_wp2_with (go_at_call 267; refine HO.out.mono ?_; rintro e W1 ⟨rfl, rfl⟩)
  go_ret
  exact ⟨rfl, rfl⟩
theorem rmq_rem {n : Nat} (h : RMq j P s w) (hok : MqOk P s) (hP : P.Ok) (hb : (n : Int) ∈ mqAll P s) :
    Calls Tryz.prog 223 #[.pointer (some ⟨j.mb, 0, none⟩), .int .i64 n] w fun e w' => e = .returned (.bool true) ∧ RMq j P (mqRem s n) w' ∧ Only (RF j) w w' := by
  obtain ⟨i, hi, hbi⟩ := one_mem hb
  have hn := hok.dj.rng hbi
  have HO := Lib.hid (rmq_of_in h hok.dj hP.q8 hi hbi)
  obtain ⟨gv, qv, hA⟩ := h
  have HA := Lib.hid hA
  have HI := Lib.hid hi
  have HL := Lib.hid (show (s.S i).length ≤ 10000 by have := len64 (i := i) hok.dj; omega)
  have HEQ := Lib.hid (mqRem_eq hok hbi)
  have HND := Lib.hid (hok.dj.nodup i)
  have hi8 : (i : Int) < 8 := by have := hP.q8; omega
  have hii : (i : Int) < P.q := by omega
  have k1 : w.drew.cell? ⟨j.mb, 3, none⟩ = some (.slice (some ⟨j.qb, 0, none⟩) P.q j.qc) := hA.c3
  have k2 : w.drew.cell? ⟨j.qb, i, none⟩ = some (qv i) := (hA.cq hi).1
  clear hA hok hP hb hbi hi hn
  go_enter Tryz.func223, Tryz.ntmps223
  go_upto_region 4 with (go_at_call 267; refine HO.out.mono ?_; rintro e W1 ⟨rfl, rfl⟩)
  refine wp_region_tail (S := (fun w' : World => w'.cell? ⟨j.mb, 3, none⟩ = some (.slice (some ⟨j.qb, 0, none⟩) P.q j.qc) ∧ w'.cell? ⟨j.qb, i, none⟩ = some (qv i))) 14 (by kernel_rfl) (by kernel_rfl) ?_ ?_
  · exact ⟨by assumption, by assumption⟩
  intro hSS
  refine wpHd_take (i := 0) (v := ?_) (by kernel_rfl) rfl (by kernel_rfl) (fun _ _ _ h => h) (.inl ⟨by rfl, ?_⟩) hSS ?_
  rotate_left
  · intro w hSw; (try dsimp only at hSw); go_simp; (try with_reducible rfl)
  refine wpHd_take (i := 1) (v := ?_) (by kernel_rfl) rfl (by kernel_rfl) (fun _ _ _ h => h) (.inl ⟨by rfl, ?_⟩) hSS ?_
  rotate_left
  · intro w hSw; (try dsimp only at hSw); go_simp; (try with_reducible rfl)
  refine wpHd_take (i := 2) (v := ?_) (by kernel_rfl) rfl (by kernel_rfl) (fun _ _ _ h => h) (.inl ⟨by rfl, ?_⟩) hSS ?_
  rotate_left
  · intro w hSw; (try dsimp only at hSw); go_simp; (try with_reducible rfl)
  refine wpHd_take (i := 3) (v := ?_) (by kernel_rfl) rfl (by kernel_rfl) (fun _ _ _ h => h) (.inl ⟨by rfl, ?_⟩) hSS ?_
  rotate_left
  · intro w hSw; (try dsimp only at hSw); go_simp; (try with_reducible rfl)
  refine wpHd_take (i := 4) (v := ?_) (by kernel_rfl) rfl (by kernel_rfl) (fun _ _ _ h => h) (.inl ⟨by rfl, ?_⟩) hSS ?_
  rotate_left
  · intro w hSw; (try dsimp only at hSw); go_simp; (try with_reducible rfl)
  try simp only [Act.put, List.getElem_toArray, List.getElem_cons_succ, List.getElem_cons_zero, List.setIfInBounds_toArray, List.set_cons_zero, List.set_cons_succ]
  refine wpHd_take (i := 5) (v := ?_) (by kernel_rfl) rfl (by kernel_rfl) (fun _ _ _ h => h) (.inl ⟨by rfl, ?_⟩) hSS ?_
  rotate_left
  · intro w hSw; (try dsimp only at hSw); go_simp; (try with_reducible rfl)
  refine wpHd_take (i := 6) (v := ?_) (by kernel_rfl) rfl (by kernel_rfl) (fun _ _ _ h => h) (.inl ⟨by rfl, ?_⟩) hSS ?_
  rotate_left
  · intro w hSw; (try dsimp only at hSw); go_simp; (try with_reducible rfl)
  refine wpHd_take (i := 7) (v := ?_) (by kernel_rfl) rfl (by kernel_rfl) (fun _ _ _ h => h) (.inl ⟨by rfl, ?_⟩) hSS ?_
  rotate_left
  · intro w hSw; (try dsimp only at hSw); go_simp; (try with_reducible rfl)
  refine wpHd_take (i := 8) (v := ?_) (by kernel_rfl) rfl (by kernel_rfl) (fun _ _ _ h => h) (.inl ⟨by rfl, ?_⟩) hSS ?_
  rotate_left
  · intro w hSw; (try dsimp only at hSw); go_simp; (try with_reducible rfl)
  refine wpHd_take (i := 9) (v := ?_) (by kernel_rfl) rfl (by kernel_rfl) (fun _ _ _ h => h) (.inl ⟨by rfl, ?_⟩) hSS ?_
  rotate_left
  · intro w hSw; (try dsimp only at hSw); go_simp; (try with_reducible rfl)
  try simp only [Act.put, List.getElem_toArray, List.getElem_cons_succ, List.getElem_cons_zero, List.setIfInBounds_toArray, List.set_cons_zero, List.set_cons_succ]
  refine wpHd_take (i := 10) (v := ?_) (by kernel_rfl) rfl (by kernel_rfl) (fun _ _ _ h => h) (.inl ⟨by rfl, ?_⟩) hSS ?_
  rotate_left
  · intro w hSw; (try dsimp only at hSw); go_simp; (try with_reducible rfl)
  refine wpHd_take (i := 11) (v := ?_) (by kernel_rfl) rfl (by kernel_rfl) (fun _ _ _ h => h) (.inl ⟨by rfl, ?_⟩) hSS ?_
  rotate_left
  · intro w hSw; (try dsimp only at hSw); go_simp; (try with_reducible rfl)
  refine wpHd_take (i := 12) (v := ?_) (by kernel_rfl) rfl (by kernel_rfl) (fun _ _ _ h => h) (.inl ⟨by rfl, ?_⟩) hSS ?_
  rotate_left
  · intro w hSw; (try dsimp only at hSw); go_simp; (try with_reducible rfl)
  try simp only [Act.put, List.getElem_toArray, List.getElem_cons_succ, List.getElem_cons_zero, List.setIfInBounds_toArray, List.set_cons_zero, List.set_cons_succ]
  refine wpHd_one (i := 13) rfl (by kernel_rfl) (fun Kc hK => ?_)
  go_simp
  refine (without_any (n : Int) w.drew ((HA.out.q i HI.out).only ((Only.refl Non w).drew) fun _ _ => id) HL.out).mono ?_
  rintro e W1 ⟨v1, rfl, ho1, hn1⟩
  obtain ⟨A1, n1, c1, rfl⟩ : ∃ A n c, v1 = Value.slice A n c := by obtain ⟨A, c, e, _⟩ := ho1.shape; exact ⟨A, _, c, e⟩
  have HV1 := Lib.hid ho1
  have HN1 := Lib.hid ((Only.refl Non w).drew.trans hn1)
  have k1 := hn1.cell hSS.1 id
  have k2 := hn1.cell hSS.2 id
  clear ho1 hn1
  refine hK.out _ _ ?_ (fun hSS => ?_)
  · exact ⟨by assumption, by assumption⟩
  clear hK
  try simp only [Act.put, List.getElem_toArray, List.getElem_cons_succ, List.getElem_cons_zero, List.setIfInBounds_toArray, List.set_cons_zero, List.set_cons_succ]
  refine wpHd_end (by kernel_rfl) ?_
  obtain ⟨hc1, hf1⟩ := (HA.out.keep HN1.out).cq HI.out
  clear hSS k1 k2
  go_wp2
  go_ret
  have hown : OwnInts 3 W1 j.B (.slice A1 n1 c1) ((s.S i).erase n) := by
    have h1 := HV1.out.low HA.out.bs
    rw [erase_filter HND.out] at h1
    exact h1
  exact ⟨rfl, ⟨gv, _, ((HA.out.keep HN1.out).setq HI.out hown).congr (fun k _ => HEQ.out k) rfl rfl rfl⟩, (((Only.refl (RF j) w).transN HN1.out).setCell (p := ⟨j.qb, i, none⟩) (.inl (.inr (.inl rfl))) _)⟩
theorem rmq_all (h : RMq j P s w) (hok : MqOk P s) (hP : P.Ok) :
    Calls Tryz.prog 99 #[.pointer (some ⟨j.mb, 0, none⟩)] w fun e w' => ∃ v, e = .returned v ∧ OwnInts 3 w' w.heap.size v (mqAll P s) ∧ Only Non w w' := by
  obtain ⟨gv, qv, hA⟩ := h
  have HA := Lib.hid hA
  have hq8 := hP.q8
  have HLA := Lib.hid (show (mqAll P s).length ≤ 512 from by have := from_le (S := s.S) (fun i => len64 (i := i) hok.dj) P.q; show (mqFrom s.S P.q).length ≤ 512; omega)
  clear hA hok hP
  go_enter Tryz.func99, Tryz.ntmps99
  go_upto_region 3 with fail
  go_loopw [3, 4] (fun v i wr => RalRel P s w v i wr) (fun _ i _ => P.q - (intOf i).toNat)
  case atStart => exact ⟨0, [], Nat.zero_le _, rfl, rfl, OwnInts.nil _ _ _, Only.refl _ _⟩
  case round =>
    obtain ⟨k, L, hk, rfl, hL, hown, ho⟩ := hrel
    have HL := Lib.hid hown
    have HO := Lib.hid ho
    have x3 := (HA.out.keep ho).c3
    by_cases hlt : k < P.q
    · have hlti : (k : Int) < P.q := by omega
      obtain ⟨m, hm⟩ : ∃ m, P.q = m + 1 + k := ⟨P.q - 1 - k, by omega⟩
      have HM := Lib.hid (show m < P.q by omega)
      have HLT := Lib.hid hlt
      have hE : (L ++ s.S m) ++ mqFrom s.S m = mqAll P s := by
        rw [← hL, show P.q - k = m + 1 by omega, mqFrom, List.append_assoc]
      have HE := Lib.hid (show (L ++ s.S m) ++ mqFrom s.S (P.q - (k + 1)) = mqAll P s by rw [show P.q - (k + 1) = m by omega]; exact hE)
      have HLN := Lib.hid (show L.length + (s.S m).length ≤ 1000000 by
        have h1 := HLA.out
        rw [← hE, List.length_append, List.length_append] at h1
        omega)
      have hw1 : IntKind.i64.wrap ((P.q : Int) - 1) = (P.q : Int) - 1 := by rw [IntKind.wrap_i64]; omega
      have hw2 : IntKind.i64.wrap (m : Int) = m := by rw [IntKind.wrap_i64]; omega
      have hw3 : (P.q : Int) - 1 - k = m := by omega
      have hmi : (m : Int) < P.q := by omega
      clear hL hE hown ho hlt hk hm
      go_upto_region 5 with fail
      have k1 : wr.drew.cell? ⟨j.mb, 3, none⟩ = some (.slice (some ⟨j.qb, 0, none⟩) P.q j.qc) := x3
      have k2 : wr.drew.cell? ⟨j.qb, m, none⟩ = some (qv m) := (((HA.out.keep HO.out).cq HM.out).1)
      refine wp_region_tail (S := (fun w' : World => w'.cell? ⟨j.mb, 3, none⟩ = some (.slice (some ⟨j.qb, 0, none⟩) P.q j.qc) ∧ w'.cell? ⟨j.qb, m, none⟩ = some (qv m))) 16 (by kernel_rfl) (by kernel_rfl) ?_ ?_
      · exact ⟨by assumption, by assumption⟩
      intro hSS
      refine wpHd_take (i := 0) (v := ?_) (by kernel_rfl) rfl (by kernel_rfl) (fun _ _ _ h => h) (.inl ⟨by rfl, ?_⟩) hSS ?_
      rotate_left
      · intro w hSw; (try dsimp only at hSw); go_simp; (try with_reducible rfl)
      refine wpHd_take (i := 1) (v := ?_) (by kernel_rfl) rfl (by kernel_rfl) (fun _ _ _ h => h) (.inl ⟨by rfl, ?_⟩) hSS ?_
      rotate_left
      · intro w hSw; (try dsimp only at hSw); go_simp; (try with_reducible rfl)
      refine wpHd_take (i := 2) (v := ?_) (by kernel_rfl) rfl (by kernel_rfl) (fun _ _ _ h => h) (.inl ⟨by rfl, ?_⟩) hSS ?_
      rotate_left
      · intro w hSw; (try dsimp only at hSw); go_simp; (try with_reducible rfl)
      refine wpHd_take (i := 3) (v := ?_) (by kernel_rfl) rfl (by kernel_rfl) (fun _ _ _ h => h) (.inl ⟨by rfl, ?_⟩) hSS ?_
      rotate_left
      · intro w hSw; (try dsimp only at hSw); go_simp; (try with_reducible rfl)
      refine wpHd_take (i := 4) (v := ?_) (by kernel_rfl) rfl (by kernel_rfl) (fun _ _ _ h => h) (.inl ⟨by rfl, ?_⟩) hSS ?_
      rotate_left
      · intro w hSw; (try dsimp only at hSw); go_simp; (try with_reducible rfl)
      try simp only [Act.put, List.getElem_toArray, List.getElem_cons_succ, List.getElem_cons_zero, List.setIfInBounds_toArray, List.set_cons_zero, List.set_cons_succ]
      refine wpHd_take (i := 5) (v := ?_) (by kernel_rfl) rfl (by kernel_rfl) (fun _ _ _ h => h) (.inl ⟨by rfl, ?_⟩) hSS ?_
      rotate_left
      · intro w hSw; (try dsimp only at hSw); go_simp; (try with_reducible rfl)
      refine wpHd_take (i := 6) (v := ?_) (by kernel_rfl) rfl (by kernel_rfl) (fun _ _ _ h => h) (.inl ⟨by rfl, ?_⟩) hSS ?_
      rotate_left
      · intro w hSw; (try dsimp only at hSw); go_simp; (try with_reducible rfl)
      refine wpHd_take (i := 7) (v := ?_) (by kernel_rfl) rfl (by kernel_rfl) (fun _ _ _ h => h) (.inl ⟨by rfl, ?_⟩) hSS ?_
      rotate_left
      · intro w hSw; (try dsimp only at hSw); go_simp; (try with_reducible rfl)
      refine wpHd_take (i := 8) (v := ?_) (by kernel_rfl) rfl (by kernel_rfl) (fun _ _ _ h => h) (.inl ⟨by rfl, ?_⟩) hSS ?_
      rotate_left
      · intro w hSw; (try dsimp only at hSw); go_simp; (try with_reducible rfl)
      refine wpHd_take (i := 9) (v := ?_) (by kernel_rfl) rfl (by kernel_rfl) (fun _ _ _ h => h) (.inl ⟨by rfl, ?_⟩) hSS ?_
      rotate_left
      · intro w hSw; (try dsimp only at hSw); go_simp; (try with_reducible rfl)
      try simp only [Act.put, List.getElem_toArray, List.getElem_cons_succ, List.getElem_cons_zero, List.setIfInBounds_toArray, List.set_cons_zero, List.set_cons_succ]
      refine wpHd_take (i := 10) (v := ?_) (by kernel_rfl) rfl (by kernel_rfl) (fun _ _ _ h => h) (.inl ⟨by rfl, ?_⟩) hSS ?_
      rotate_left
      · intro w hSw; (try dsimp only at hSw); go_simp; (try with_reducible rfl)
      refine wpHd_take (i := 11) (v := ?_) (by kernel_rfl) rfl (by kernel_rfl) (fun _ _ _ h => h) (.inl ⟨by rfl, ?_⟩) hSS ?_
      rotate_left
      · intro w hSw; (try dsimp only at hSw); go_simp; (try with_reducible rfl)
      refine wpHd_take (i := 12) (v := ?_) (by kernel_rfl) rfl (by kernel_rfl) (fun _ _ _ h => h) (.inl ⟨by rfl, ?_⟩) hSS ?_
      rotate_left
      · intro w hSw; (try dsimp only at hSw); go_simp; (try with_reducible rfl)
      refine wpHd_take (i := 13) (v := ?_) (by kernel_rfl) rfl (by kernel_rfl) (fun _ _ _ h => h) (.inl ⟨by rfl, ?_⟩) hSS ?_
      rotate_left
      · intro w hSw; (try dsimp only at hSw); go_simp; (try with_reducible rfl)
      refine wpHd_take (i := 14) (v := ?_) (by kernel_rfl) rfl (by kernel_rfl) (fun _ _ _ h => h) (.inl ⟨by rfl, ?_⟩) hSS ?_
      rotate_left
      · intro w hSw; (try dsimp only at hSw); go_simp; (try with_reducible rfl)
      try simp only [Act.put, List.getElem_toArray, List.getElem_cons_succ, List.getElem_cons_zero, List.setIfInBounds_toArray, List.set_cons_zero, List.set_cons_succ]
      refine wpHd_one (i := 15) rfl (by kernel_rfl) (fun Kc hK => ?_)
      rw [if_pos (by rfl)]
      refine wp_ownapp _ (.tmp 14) (.tmp 28) 43 3 rfl intInfo Tryz.underlying43 w.heap.size u3 L rfl (HL.out.only ((Only.refl Non _).drew) fun _ _ => id) j.B (qv m) (s.S m) rfl ((HA.out.q m HM.out).only (HO.out.drew) fun _ _ => id) HLN.out HO.out.size ?_
      intro v2 W2 h3 h4
      have HV2 := Lib.hid h3
      have HO2 := Lib.hid ((HO.out.drew).trans' h4 fun q hq => .inr (HL.out.lt q hq).1)
      have k1 := h4.cell hSS.1 (fun hq => by have h9 : w.heap.size ≤ j.mb := (HL.out.lt _ hq).1; have := HA.out.lt; have := HA.out.bs; omega)
      have k2 := h4.cell hSS.2 (fun hq => by have h9 : w.heap.size ≤ j.qb := (HL.out.lt _ hq).1; have := HA.out.lt; have := HA.out.bs; omega)
      clear h3 h4
      refine hK.out _ _ ?_ (fun hSS => ?_)
      · exact ⟨by assumption, by assumption⟩
      clear hK
      try simp only [Act.put, List.getElem_toArray, List.getElem_cons_succ, List.getElem_cons_zero, List.setIfInBounds_toArray, List.set_cons_zero, List.set_cons_succ]
      refine wpHd_end (by kernel_rfl) ?_
      clear hSS k1 k2 x3
      go_wp2
      go_roundw
      case rel => exact ⟨k + 1, L ++ s.S m, HLT.out, by push_cast; rfl, HE.out, HV2.out, HO2.out⟩
      case measure => simp [intOf]; have := HLT.out; omega
    · obtain rfl : k = P.q := by omega
      rw [Nat.sub_self, show mqFrom s.S 0 = [] from rfl, List.append_nil] at hL
      clear hlt hk hown ho
      go_wp2
      go_ret
      exact ⟨_, rfl, by rw [← hL]; exact HL.out, HO.out⟩
end
def wnC (v : Int) (g : Bool) (e : Int) : Array Value := #[.int .i64 v, .bool g, .int .i64 e]
theorem wnC_one (v : Int) (g : Bool) (e : Int) : (wnC v g e).all (·.oneCell') = true := by simp [wnC, Value.oneCell']
theorem OwnInts.boxOf {t : TypeId} {w : World} {base : Nat} {v : Value} {xs : List Int} (h : OwnInts t w base v xs) {k : Nat} (hk : ownB v k) : ∃ cs, Box w k t cs := by
  rcases h.2 with ⟨rfl, _⟩ | ⟨g, cap, cur, rfl, _, hg, _⟩
  · exact absurd hk ownB_none
  · obtain rfl := ownB_slice.1 hk
    exact ⟨cur, hg⟩
theorem OwnInts.some_ {t : TypeId} {w : World} {base : Nat} {v : Value} {xs : List Int} (h : OwnInts t w base v xs) (hne : xs ≠ []) : ∃ g c, v = .slice (some ⟨g, 0, none⟩) xs.length c ∧ xs.length ≤ c ∧ c ≤ maxLen := by
  rcases h.2 with ⟨_, h0⟩ | ⟨g, cap, cur, rfl, _, _, h1, h2, _⟩
  · exact absurd (List.eq_nil_of_length_eq_zero h0) hne
  · exact ⟨g, cap, rfl, h1, h2⟩
theorem OwnInts.take {t : TypeId} {w : World} {base m c : Nat} {A : Option Addr} {xs : List Int} (h : OwnInts t w base (.slice A xs.length c) xs) (hm : m ≤ xs.length) : OwnInts t w base (.slice A m c) (xs.take m) := by
  rcases h.2 with ⟨e, h0⟩ | ⟨g, cap, cur, e, hb, hg, hn, hx, hs, ht⟩
  · injection e with e1 e2 e3
    subst e1 e3
    obtain rfl : m = 0 := by omega
    exact OwnInts.nil _ _ _
  · injection e with e1 e2 e3
    subst e1 e3
    refine ⟨by simp, .inr ⟨g, c, cur, by rw [List.length_take, Nat.min_eq_left hm], hb, hg, by rw [List.length_take]; omega, hx, hs, ?_⟩⟩
    rw [Nat.mul_one] at ht ⊢
    rw [List.length_take, Nat.min_eq_left hm, List.map_take, ← ht, List.take_take, Nat.min_eq_left hm]
section
variable {j : RmqJ} {P : MqP} {gv : Value} {qv : Nat → Value} {s s' : MqS} {w w' : World}
theorem RMqA.offT (h : RMqA j P gv qv s w) {g : Nat} {cs : Array Value} (hb : Box w g 324 cs) (ho : Only (Just g) w w') : RMqA j P gv qv s w' := by
  have nI : ∀ {v : Value} {l : List Int}, OwnInts 3 w j.B v l → ∀ k, ownB v k → ¬ Just g k := fun hv k hk e => by
    obtain ⟨c2, h2⟩ := hv.boxOf hk
    exact (h2.off hb (by decide)) e
  refine ⟨ho.box h.box (h.box.off hb (by decide)), h.row.only ho fun k hk e => ?_, fun i hi => (h.q i hi).only ho (nI (h.q i hi)), h.g.only ho (nI h.g), ho.box h.of (h.of.off hb (by decide)), ho.box h.ex (h.ex.off hb (by decide)), h.lt, h.ne, Nat.le_trans h.bs ho.size⟩
  obtain ⟨c2, h2⟩ := h.row.box hk
  exact (h2.off hb (by decide)) e
theorem RMq.offT (h : RMq j P s w) {g : Nat} {cs : Array Value} (hb : Box w g 324 cs) (ho : Only (Just g) w w') : RMq j P s w' := by
  obtain ⟨gv, qv, hA⟩ := h
  exact ⟨gv, qv, hA.offT hb ho⟩
theorem RMq.keep (h : RMq j P s w) (ho : Only Non w w') : RMq j P s w' := by
  obtain ⟨gv, qv, hA⟩ := h
  exact ⟨gv, qv, hA.keep ho⟩
theorem RMq.notRF (h : RMq j P s w) {k : Nat} (hk : w.heap.size ≤ k) : ¬ RF j k := by
  obtain ⟨gv, qv, hA⟩ := h
  have := hA.lt; have := hA.bs
  rintro (e | e | e | e) <;> omega
end
def RAddPost (j : RmqJ) (P : MqP) (s : MqS) (b : Int) (w : World) (e : Ending) (w' : World) : Prop :=
  e = .returned (.agg (wnC (mqAdd P s b).2.1 (mqAdd P s b).2.2 0)) ∧ RMq j P (mqAdd P s b).1 w' ∧ Only (RF j) w w'
def QzRel (s : MqS) (q0 : Nat) (W : World) (qv : Value) (wr : World) : Prop := ∃ k : Nat, k ≤ q0 ∧ qv = .int .i64 k ∧ W = wr
theorem ghosted_eq {P : MqP} {s : MqS} (h : MqOk P s) {i : Nat} {v : Int} (hi : i < P.q) (hv : v ∈ s.S i) (k : Nat) : updN (updN s.S i ((s.S i).erase v)) P.q (v :: s.S P.q) k = toF s.S P.q v k := by
  have hg : v ∉ s.S P.q := fun h2 => by have := h.dj.dj h2 hv; omega
  unfold toF frontS
  unfold updN eraS
  by_cases e : k = P.q
  · rw [if_pos e, if_pos e, List.erase_of_not_mem hg]
  · rw [if_neg e, if_neg e]
    by_cases e2 : k = i
    · rw [if_pos e2, e2]
    · rw [if_neg e2, List.erase_of_not_mem fun h2 => e2 (h.dj.dj h2 hv)]
theorem erase_last : ∀ {l : List Int}, l.Nodup → l.erase (lst l) = l.take (l.length - 1)
  | [], _ => rfl
  | a :: l, h => by
    rw [lst_cons]
    by_cases e : l = []
    · subst e; simp
    · rw [if_neg e]
      have hl := lst_in e
      have hne : a ≠ lst l := fun h2 => (List.nodup_cons.1 h).1 (h2 ▸ hl)
      have hp := List.length_pos_iff.2 e
      rw [List.erase_cons_tail (by simpa using hne), erase_last (List.nodup_cons.1 h).2, List.length_cons]
      obtain ⟨m, hm⟩ : ∃ m, l.length = m + 1 := ⟨l.length - 1, by omega⟩
      rw [hm]; rfl
theorem ghosted_q {P : MqP} {s : MqS} (h : MqI P s) {q0 : Nat} (hq : q0 < P.q) {v : Int} (hv : mqVict P s = v) (hm : v ∈ s.S q0) : (mqGhosted P s).S P.q = v :: s.S P.q := by
  show toF s.S P.q (mqVict P s) P.q = _
  rw [hv, ← ghosted_eq h.ok hq hm P.q]
  unfold updN
  rw [if_pos rfl]
theorem evict_whole {P : MqP} {s : MqS} (h : MqI P s) {q0 : Nat} (hq : q0 < P.q) {v : Int} (hv : mqVict P s = v) (hm : v ∈ s.S q0) (hg : ¬ P.ghost < (s.S P.q).length + 1) : mqEvict P s = mqGhosted P s := by
  unfold mqEvict
  rw [ghosted_q h hq hv hm, List.length_cons, if_neg hg]
theorem evict_trunc {P : MqP} {s : MqS} (h : MqI P s) {q0 : Nat} (hq : q0 < P.q) {v : Int} (hv : mqVict P s = v) (hm : v ∈ s.S q0) (hg : P.ghost < (s.S P.q).length + 1) :
    mqEvict P s = { mqGhosted P s with S := eraS (mqGhosted P s).S (lst (v :: s.S P.q)) } ∧ ∀ k, updN (mqGhosted P s).S P.q ((v :: s.S P.q).take P.ghost) k = eraS (mqGhosted P s).S (lst (v :: s.S P.q)) k := by
  have hr := h.ok.dj.rng hm
  have hdj : Djl (P.q + 1) (mqGhosted P s).S := h.ok.dj.toF (Nat.lt_succ_self _) (by rw [hv]; exact hr.1) (by rw [hv]; exact hr.2)
  have hgq := ghosted_q h hq hv hm
  refine ⟨?_, fun k => ?_⟩
  · unfold mqEvict
    rw [hgq, List.length_cons, if_pos hg]
  · unfold updN
    by_cases e : k = P.q
    · rw [if_pos e, e]
      show _ = ((mqGhosted P s).S P.q).erase _
      rw [hgq, erase_last (by rw [← hgq]; exact hdj.nodup P.q), List.length_cons]
      have := h.gh
      congr 1
      omega
    · rw [if_neg e]
      show _ = ((mqGhosted P s).S k).erase _
      rw [List.erase_of_not_mem]
      intro h2
      have h3 : lst (v :: s.S P.q) ∈ (mqGhosted P s).S P.q := by rw [hgq]; exact lst_in (by simp)
      exact e (hdj.dj h2 h3)
section
set_option maxHeartbeats 4000000
set_option maxRecDepth 100000
variable {j : RmqJ} {P : MqP} {s : MqS} {w : World}
theorem rmq_add_in {n : Nat} (h : RMq j P s w) (hok : MqOk P s) (hP : P.Ok) (h1 : s.now ≤ 1000000000) (hn : n < 64) (hb : (n : Int) ∈ mqAll P s) :
    Calls Tryz.prog 222 #[.pointer (some ⟨j.mb, 0, none⟩), .int .i64 n] w (RAddPost j P s n w) := by
  have HB := Lib.hid (Box.fresh w 324 (wnC 0 false 0))
  have HO := Lib.hid (((Only.refl Non w).alloc (.cells (wnC 0 false 0) 324)))
  have HR := Lib.hid (show RMq j P s (w.alloc (.cells (wnC 0 false 0) 324)) from h.keep HO.out)
  have hn63 : (n : Int) ≤ 63 := by omega
  have HNF := Lib.hid (show ∀ k, w.heap.size ≤ k → ¬ RF j k from fun k hk => h.notRF hk)
  clear h
  go_enter Tryz.func222, Tryz.ntmps222
  go_upto_region 1 with fail
  obtain ⟨rb, hrb⟩ : ∃ rb, rb = w.heap.size := ⟨_, rfl⟩
  have HRB := Lib.hid (show w.heap.size ≤ rb from Nat.le_of_eq hrb.symm)
  rw [← hrb] at HB ⊢
  clear hrb
  change Code.wp _ _ _ _ (w.alloc (.cells (wnC 0 false 0) 324))
  generalize w.alloc (.cells (wnC 0 false 0) 324) = W1 at *
  have HB1 := Lib.hid HB.out
  have HO1 := Lib.hid HO.out
  have HR1 := Lib.hid HR.out
  clear HB HO HR
  generalize W1 = W2 at *
  have HU := Lib.hid (rmq_use_in HR1.out hok hP h1 hb)
  have HEQ := Lib.hid (show mqAdd P s n = (mqUse P s n, 0, false) by unfold mqAdd; rw [if_pos hb])
  clear hok hP h1 hb
  go_upto_region 4 with (go_at_call 221; refine HU.out.mono ?_; rintro e W3 ⟨rfl, hr3, ho3⟩; have HB3 := Lib.hid (ho3.box HB1.out (HNF.out rb HRB.out)); have HR3 := Lib.hid hr3; have HO3 := Lib.hid ((HO1.out.mono fun _ hb => hb.elim).trans ho3); clear hr3 ho3)
  go_wp2_with (first | (refine wpList_store_row rfl 324 _ _ rfl rb (wnC 0 false 0) rfl rfl 324 _ HB3.out (by kernel_rfl) rfl (wnC_one _ _ _) ?_))
  (try simp only [Exit.inBlock, Exit.then])
  refine bodyPost_ret (results_cell_row rfl _ _ rb _ (wnC 0 false 0) (0, 0) _ rfl (HB3.out.setRow' _) Tryz.underlying324 rfl (by kernel_rfl)) rfl ?_
  exact ⟨by rw [HEQ.out], by rw [HEQ.out]; exact HR3.out.offT HB3.out ((Only.refl (Just rb) _).setRow' (.inl rfl) _), HO3.out.setRow' (.inr HRB.out) _⟩
theorem rmq_add_new {n : Nat} (h : RMq j P s w) (hI : MqI P s) (hP : P.Ok) (h1 : s.now ≤ 1000000000) (hn : n < 64) (hb : (n : Int) ∉ mqAll P s) :
    Calls Tryz.prog 222 #[.pointer (some ⟨j.mb, 0, none⟩), .int .i64 n] w (RAddPost j P s n w) := by
  have HB := Lib.hid (Box.fresh w 324 (wnC 0 false 0))
  have HO := Lib.hid (((Only.refl Non w).alloc (.cells (wnC 0 false 0) 324)))
  have HR := Lib.hid (show RMq j P s (w.alloc (.cells (wnC 0 false 0) 324)) from h.keep HO.out)
  have hn63 : (n : Int) ≤ 63 := by omega
  have HNF := Lib.hid (show ∀ k, w.heap.size ≤ k → ¬ RF j k from fun k hk => h.notRF hk)
  clear h
  go_enter Tryz.func222, Tryz.ntmps222
  go_upto_region 1 with fail
  obtain ⟨rb, hrb⟩ : ∃ rb, rb = w.heap.size := ⟨_, rfl⟩
  have HRB := Lib.hid (show w.heap.size ≤ rb from Nat.le_of_eq hrb.symm)
  rw [← hrb] at HB ⊢
  clear hrb
  change Code.wp _ _ _ _ (w.alloc (.cells (wnC 0 false 0) 324))
  generalize w.alloc (.cells (wnC 0 false 0) 324) = W1 at *
  have HB1 := Lib.hid HB.out
  have HO1 := Lib.hid HO.out
  have HR1 := Lib.hid HR.out
  clear HB HO HR
  generalize W1 = W2 at *
  have hq8 := hP.q8
  have HQ1 := Lib.hid hP.q1
  have HN := Lib.hid hn
  have hc16 := hP.c16
  have HUN := Lib.hid (rmq_use_no HR1.out hP.q8 hb)
  have HAD := Lib.hid (show mqAdd P s n = if (mqAll P (mqTick s)).length = P.cap then (mqUsed P (mqFresh P (mqEvict P (mqTick s)) n) n, mqVict P (mqTick s), true) else (mqUsed P (mqFresh P (mqTick s) n) n, 0, false) by unfold mqAdd; rw [if_neg hb]; rfl)
  have h0 := hI.ok.now
  have hwn : IntKind.i64.wrap (s.now + 1) = s.now + 1 := by rw [IntKind.wrap_i64]; omega
  obtain ⟨gv, qv, hA⟩ := HR1.out
  have x7 := hA.c7
  have xf := hA.box.free 7
  have HR3 := Lib.hid (show RMq j P (mqTick s) (W2.setCell ⟨j.mb, 7, none⟩ (.int .i64 (s.now + 1))) from ⟨gv, qv, hA.setn (s.now + 1) hP.q1⟩)
  have ho3 : Only (RF j) W2 (W2.setCell ⟨j.mb, 7, none⟩ (.int .i64 (s.now + 1))) := (Only.refl _ W2).setCell (p := ⟨j.mb, 7, none⟩) (.inl (.inl rfl)) _
  have HO3 := Lib.hid ((HO1.out.mono fun _ hb => hb.elim).trans ho3)
  have HB3 := Lib.hid (ho3.box HB1.out (HNF.out rb HRB.out))
  have HTT := Lib.hid (show MqI P (mqTick s) from ⟨tick_ok hI.ok, hI.len, hI.gh⟩)
  have HTTO := Lib.hid (show ∀ y, (mqTick s).often y + 1 ≤ (mqTick s).now from fun y => by have := (hI.ok.often y).2; show s.often y + 1 ≤ s.now + 1; omega)
  have HTTN := Lib.hid (show 1 ≤ (mqTick s).now ∧ (mqTick s).now ≤ 1000000001 from by show 1 ≤ s.now + 1 ∧ s.now + 1 ≤ 1000000001; omega)
  have HNB := Lib.hid (show (n : Int) ∉ mqAll P (mqTick s) from hb)
  have HP := Lib.hid hP
  clear hA ho3 hI hP h1 hb h0 hn
  go_upto_region 6 with (go_at_call 221; refine HUN.out.mono ?_; rintro e W3 ⟨rfl, rfl⟩)
  change Code.wp _ _ _ _ (W2.setCell ⟨j.mb, 7, none⟩ (.int .i64 (s.now + 1)))
  clear x7 xf hwn HR1 HB1 HO1 HUN
  generalize W2.setCell ⟨j.mb, 7, none⟩ (.int .i64 (s.now + 1)) = W3 at *
  generalize mqTick s = t0 at *
  go_upto_region 7 with fail
  have ho4 : Only Non W3 (W3.alloc (.cells (wnC 0 false 0) 324)) := (Only.refl Non W3).alloc _
  have HE4 := Lib.hid (Box.fresh W3 324 (wnC 0 false 0))
  have HB4 := Lib.hid (ho4.box HB3.out id)
  have HR4 := Lib.hid (HR3.out.keep ho4)
  have HO4 := Lib.hid (HO3.out.transN ho4)
  have HEB := Lib.hid (show w.heap.size ≤ W3.heap.size from HO3.out.size)
  have HNE := Lib.hid (show rb ≠ W3.heap.size from Nat.ne_of_lt HB3.out.lt)
  change Code.wp _ _ _ _ (W3.alloc (.cells (wnC 0 false 0) 324))
  clear ho4 HB3 HR3 HO3
  generalize W3.alloc (.cells (wnC 0 false 0) 324) = W4 at *
  generalize W3.heap.size = eb at *
  obtain ⟨gv4, qv4, hA4⟩ := HR4.out
  have x0 : W4.cell? ⟨j.mb, 0, none⟩ = some (.int .i64 P.cap) := hA4.box.cellAt rfl
  clear hA4
  have HLN := Lib.hid (fun q => rmq_len (HR4.out.keep ((Only.refl Non W4).drewN q)) HTT.out.ok.dj hq8)
  by_cases hc : (mqAll P t0).length = P.cap
  · have HEQ0 := Lib.hid (HAD.out.trans (if_pos hc))
    have hne : mqAll P t0 ≠ [] := fun e => by have := HP.out.c1; rw [e] at hc; simp at hc; omega
    obtain ⟨hq0, hS0, hz0⟩ := q0_spec hne
    have HEVI := Lib.hid (evict_inv HP.out HTT.out hne)
    have HVI := Lib.hid (vict_in hne)
    have HVE := Lib.hid (show mqVict P t0 = lst (t0.S (mqQ0 P t0)) from rfl)
    rw [hc] at HLN
    clear hne hc
    go_quiet ((go_at_call 269; exact quiet_l (HLN.out _)))
    have HR5 := Lib.hid (HR4.out.keep ((Only.refl Non W4).drewN nq))
    have HB5 := Lib.hid (show Box (W4.drewN nq) rb 324 (wnC 0 false 0) from ((Only.refl Non W4).drewN nq).box HB4.out id)
    have HE5 := Lib.hid (show Box (W4.drewN nq) eb 324 (wnC 0 false 0) from ((Only.refl Non W4).drewN nq).box HE4.out id)
    have HO5 := Lib.hid (HO4.out.drewN nq)
    clear x0 HLN HR4 HB4 HE4 HO4
    generalize W4.drewN nq = W5 at *
    generalize mqQ0 P t0 = q0 at *
    generalize hmv : mqVict P t0 = v at *
    have HMV := Lib.hid hmv
    clear hmv
    have HQ0 := Lib.hid hq0
    have HS0 := Lib.hid hS0
    have HZ0 := Lib.hid hz0
    clear hq0 hS0 hz0
    go_upto_region 9 with fail
    go_loopw [6] (fun qv wr => QzRel t0 q0 W5 qv wr) (fun qv _ => q0 - (intOf qv).toNat)
    case atStart => exact ⟨0, Nat.zero_le _, rfl, rfl⟩
    case round =>
      obtain ⟨k, hk, rfl, rfl⟩ := hrel
      obtain ⟨gv5, qv5, hA5⟩ := HR5.out
      have y3 := hA5.c3
      have hkq : k < P.q := by have := HQ0.out; omega
      have hki : (k : Int) < P.q := by omega
      have hcq := (hA5.cq hkq).1
      have hown := hA5.q k hkq
      obtain ⟨A, c, eq, h1, h2⟩ := hown.shape
      have hat := hown.at
      rw [eq] at hcq hat
      by_cases hke : k = q0
      · subst hke
        obtain ⟨L, hL⟩ : ∃ L, (t0.S k).length = L + 1 := ⟨(t0.S k).length - 1, by have := List.length_pos_iff.2 HS0.out; omega⟩
        have h64 := len64 (i := k) HTT.out.ok.dj
        obtain ⟨g, o, rfl, hcl⟩ := hat.cellAt (i := L) (by omega)
        rw [lst_getD hL, ← HVE.out] at hcl
        rw [hL] at hcq
        have HL0 := Lib.hid (show (t0.S k).length ≤ 10000 by omega)
        have hLw : IntKind.i64.wrap (L : Int) = L := by rw [IntKind.wrap_i64]; omega
        have hLp : ((L : Int) + 1 == 0) = false := by simp; omega
        have hL1 : (L : Int) < (L : Int) + 1 := by omega
        have hLL : L < 64 := by omega
        clear hown eq h1 h2 hat hL h64 hk hkq hA5
        generalize hq0 : k = q0 at *
        clear hq0
        go_upto_region 11 with fail
        have k1 : W5.drew.cell? ⟨j.mb, 3, none⟩ = some (.slice (some ⟨j.qb, 0, none⟩) P.q j.qc) := y3
        have k2 : W5.drew.cell? ⟨j.qb, q0, none⟩ = some (.slice (some ⟨g, o, none⟩) (L + 1) c) := hcq
        have k3 : W5.drew.cell? ⟨g, o + L, none⟩ = some (.int .i64 v) := hcl
        refine wp_region_tail (S := (fun w' : World => w'.cell? ⟨j.mb, 3, none⟩ = some (.slice (some ⟨j.qb, 0, none⟩) P.q j.qc) ∧ w'.cell? ⟨j.qb, q0, none⟩ = some (.slice (some ⟨g, o, none⟩) (L + 1) c) ∧ w'.cell? ⟨g, o + L, none⟩ = some (.int .i64 v))) 19 (by kernel_rfl) (by kernel_rfl) ?_ ?_
        · exact ⟨by assumption, by assumption, by assumption⟩
        intro hSS
        refine wpHd_take (i := 0) (v := ?_) (by kernel_rfl) rfl (by kernel_rfl) (fun _ _ _ h => h) (.inl ⟨by rfl, ?_⟩) hSS ?_
        rotate_left
        · intro w hSw; (try dsimp only at hSw); go_simp; (try with_reducible rfl)
        refine wpHd_take (i := 1) (v := ?_) (by kernel_rfl) rfl (by kernel_rfl) (fun _ _ _ h => h) (.inl ⟨by rfl, ?_⟩) hSS ?_
        rotate_left
        · intro w hSw; (try dsimp only at hSw); go_simp; (try with_reducible rfl)
        refine wpHd_take (i := 2) (v := ?_) (by kernel_rfl) rfl (by kernel_rfl) (fun _ _ _ h => h) (.inl ⟨by rfl, ?_⟩) hSS ?_
        rotate_left
        · intro w hSw; (try dsimp only at hSw); go_simp; (try with_reducible rfl)
        refine wpHd_take (i := 3) (v := ?_) (by kernel_rfl) rfl (by kernel_rfl) (fun _ _ _ h => h) (.inl ⟨by rfl, ?_⟩) hSS ?_
        rotate_left
        · intro w hSw; (try dsimp only at hSw); go_simp; (try with_reducible rfl)
        refine wpHd_take (i := 4) (v := ?_) (by kernel_rfl) rfl (by kernel_rfl) (fun _ _ _ h => h) (.inl ⟨by rfl, ?_⟩) hSS ?_
        rotate_left
        · intro w hSw; (try dsimp only at hSw); go_simp; (try with_reducible rfl)
        try simp only [Act.put, List.getElem_toArray, List.getElem_cons_succ, List.getElem_cons_zero, List.setIfInBounds_toArray, List.set_cons_zero, List.set_cons_succ]
        refine wpHd_take (i := 5) (v := ?_) (by kernel_rfl) rfl (by kernel_rfl) (fun _ _ _ h => h) (.inl ⟨by rfl, ?_⟩) hSS ?_
        rotate_left
        · intro w hSw; (try dsimp only at hSw); go_simp; (try with_reducible rfl)
        refine wpHd_take (i := 6) (v := ?_) (by kernel_rfl) rfl (by kernel_rfl) (fun _ _ _ h => h) (.inl ⟨by rfl, ?_⟩) hSS ?_
        rotate_left
        · intro w hSw; (try dsimp only at hSw); go_simp; (try with_reducible rfl)
        refine wpHd_take (i := 7) (v := ?_) (by kernel_rfl) rfl (by kernel_rfl) (fun _ _ _ h => h) (.inl ⟨by rfl, ?_⟩) hSS ?_
        rotate_left
        · intro w hSw; (try dsimp only at hSw); go_simp; (try with_reducible rfl)
        refine wpHd_take (i := 8) (v := ?_) (by kernel_rfl) rfl (by kernel_rfl) (fun _ _ _ h => h) (.inl ⟨by rfl, ?_⟩) hSS ?_
        rotate_left
        · intro w hSw; (try dsimp only at hSw); go_simp; (try with_reducible rfl)
        refine wpHd_take (i := 9) (v := ?_) (by kernel_rfl) rfl (by kernel_rfl) (fun _ _ _ h => h) (.inl ⟨by rfl, ?_⟩) hSS ?_
        rotate_left
        · intro w hSw; (try dsimp only at hSw); go_simp; (try with_reducible rfl)
        try simp only [Act.put, List.getElem_toArray, List.getElem_cons_succ, List.getElem_cons_zero, List.setIfInBounds_toArray, List.set_cons_zero, List.set_cons_succ]
        refine wpHd_take (i := 10) (v := ?_) (by kernel_rfl) rfl (by kernel_rfl) (fun _ _ _ h => h) (.inl ⟨by rfl, ?_⟩) hSS ?_
        rotate_left
        · intro w hSw; (try dsimp only at hSw); go_simp; (try with_reducible rfl)
        refine wpHd_take (i := 11) (v := ?_) (by kernel_rfl) rfl (by kernel_rfl) (fun _ _ _ h => h) (.inl ⟨by rfl, ?_⟩) hSS ?_
        rotate_left
        · intro w hSw; (try dsimp only at hSw); go_simp; (try with_reducible rfl)
        refine wpHd_take (i := 12) (v := ?_) (by kernel_rfl) rfl (by kernel_rfl) (fun _ _ _ h => h) (.inl ⟨by rfl, ?_⟩) hSS ?_
        rotate_left
        · intro w hSw; (try dsimp only at hSw); go_simp; (try with_reducible rfl)
        refine wpHd_take (i := 13) (v := ?_) (by kernel_rfl) rfl (by kernel_rfl) (fun _ _ _ h => h) (.inl ⟨by rfl, ?_⟩) hSS ?_
        rotate_left
        · intro w hSw; (try dsimp only at hSw); go_simp; (try with_reducible rfl)
        refine wpHd_take (i := 14) (v := ?_) (by kernel_rfl) rfl (by kernel_rfl) (fun _ _ _ h => h) (.inl ⟨by rfl, ?_⟩) hSS ?_
        rotate_left
        · intro w hSw; (try dsimp only at hSw); go_simp; (try with_reducible rfl)
        try simp only [Act.put, List.getElem_toArray, List.getElem_cons_succ, List.getElem_cons_zero, List.setIfInBounds_toArray, List.set_cons_zero, List.set_cons_succ]
        refine wpHd_take (i := 15) (v := ?_) (by kernel_rfl) rfl (by kernel_rfl) (fun _ _ _ h => h) (.inl ⟨by rfl, ?_⟩) hSS ?_
        rotate_left
        · intro w hSw; (try dsimp only at hSw); go_simp; (try with_reducible rfl)
        refine wpHd_take (i := 16) (v := ?_) (by kernel_rfl) rfl (by kernel_rfl) (fun _ _ _ h => h) (.inl ⟨by rfl, ?_⟩) hSS ?_
        rotate_left
        · intro w hSw; (try dsimp only at hSw); go_simp; (try with_reducible rfl)
        refine wpHd_take (i := 17) (v := ?_) (by kernel_rfl) rfl (by kernel_rfl) (fun _ _ _ h => h) (.inl ⟨by rfl, ?_⟩) hSS ?_
        rotate_left
        · intro w hSw; (try dsimp only at hSw); go_simp; (try with_reducible rfl)
        refine wpHd_take (i := 18) (v := ?_) (by kernel_rfl) rfl (by kernel_rfl) (fun _ _ _ h => h) (.inl ⟨by rfl, ?_⟩) hSS ?_
        rotate_left
        · intro w hSw; (try dsimp only at hSw); go_simp; (try with_reducible rfl)
        try simp only [Act.put, List.getElem_toArray, List.getElem_cons_succ, List.getElem_cons_zero, List.setIfInBounds_toArray, List.set_cons_zero, List.set_cons_succ]
        refine wpHd_end (by kernel_rfl) ?_
        have hE5 : Box W5.drew eb 324 (wnC 0 false 0) := ((Only.refl Non W5).drew).box HE5.out id
        have z0 : W5.drew.cell? ⟨eb, 0, none⟩ = some (.int .i64 0) := hE5.cellAt rfl
        have z1 : W5.drew.cell? ⟨eb, 1, none⟩ = some (.bool false) := hE5.cellAt rfl
        have z2 : W5.drew.frozen? ⟨eb, 0, none⟩ = false := hE5.free _
        have z3 : W5.drew.frozen? ⟨eb, 1, none⟩ = false := hE5.free _
        clear hSS k1 k2 k3 y3 hcq hcl
        go_upto_region 12 with fail
        have z4 : (W5.drew.setCell ⟨eb, 0, none⟩ (.int .i64 v)).cell? ⟨eb, 1, none⟩ = some (.bool false) := (hE5.store 0 (.int .i64 v)).cellAt rfl
        have z5 : (W5.drew.setCell ⟨eb, 0, none⟩ (.int .i64 v)).frozen? ⟨eb, 1, none⟩ = false := (hE5.store 0 (.int .i64 v)).free _
        change Code.wp _ _ _ _ (W5.drew.setCell ⟨eb, 0, none⟩ (.int .i64 v))
        generalize hW6 : W5.drew.setCell ⟨eb, 0, none⟩ (.int .i64 v) = W6a at *
        go_upto_region 13 with fail
        change Code.wp _ _ _ _ (W6a.setCell ⟨eb, 1, none⟩ (.bool true))
        rw [← hW6]
        clear z4 z5 hW6 W6a
        have ho6 : Only (Just eb) W5 ((W5.drew.setCell ⟨eb, 0, none⟩ (.int .i64 v)).setCell ⟨eb, 1, none⟩ (.bool true)) := (((Only.refl (Just eb) W5).drew).setCell (p := ⟨eb, 0, none⟩) (.inl (show Just eb eb from rfl)) _).setCell (p := ⟨eb, 1, none⟩) (.inl (show Just eb eb from rfl)) _
        have HE6 := Lib.hid (show Box ((W5.drew.setCell ⟨eb, 0, none⟩ (.int .i64 v)).setCell ⟨eb, 1, none⟩ (.bool true)) eb 324 (wnC v true 0) from (hE5.store 0 (.int .i64 v)).store 1 (.bool true))
        have HB6 := Lib.hid (ho6.box HB5.out HNE.out)
        have HR6 := Lib.hid (HR5.out.offT HE5.out ho6)
        have HO6 := Lib.hid ((((HO5.out).drew).setCell (p := ⟨eb, 0, none⟩) (.inr HEB.out) (.int .i64 v)).setCell (p := ⟨eb, 1, none⟩) (.inr HEB.out) (.bool true))
        change Code.wp _ _ _ _ ((W5.drew.setCell ⟨eb, 0, none⟩ (.int .i64 v)).setCell ⟨eb, 1, none⟩ (.bool true))
        clear hE5 z0 z1 z2 z3 ho6 HB5 HR5 HE5 HO5
        generalize (W5.drew.setCell ⟨eb, 0, none⟩ (.int .i64 v)).setCell ⟨eb, 1, none⟩ (.bool true) = W6 at *
        obtain ⟨gv6, qv6, hA6⟩ := HR6.out
        have HA6 := Lib.hid hA6
        have k1 : W6.drew.cell? ⟨j.mb, 3, none⟩ = some (.slice (some ⟨j.qb, 0, none⟩) P.q j.qc) := hA6.c3
        have k2 : W6.drew.cell? ⟨j.qb, q0, none⟩ = some (qv6 q0) := (hA6.cq HQ0.out).1
        have k3 : W6.drew.cell? ⟨eb, 0, none⟩ = some (.int .i64 v) := HE6.out.cellAt rfl
        clear hA6
        refine wp_region_tail (S := (fun w' : World => w'.cell? ⟨j.mb, 3, none⟩ = some (.slice (some ⟨j.qb, 0, none⟩) P.q j.qc) ∧ w'.cell? ⟨j.qb, q0, none⟩ = some (qv6 q0) ∧ w'.cell? ⟨eb, 0, none⟩ = some (.int .i64 v))) 15 (by kernel_rfl) (by kernel_rfl) ?_ ?_
        · exact ⟨by assumption, by assumption, by assumption⟩
        intro hSS
        refine wpHd_take (i := 0) (v := ?_) (by kernel_rfl) rfl (by kernel_rfl) (fun _ _ _ h => h) (.inl ⟨by rfl, ?_⟩) hSS ?_
        rotate_left
        · intro w hSw; (try dsimp only at hSw); go_simp; (try with_reducible rfl)
        refine wpHd_take (i := 1) (v := ?_) (by kernel_rfl) rfl (by kernel_rfl) (fun _ _ _ h => h) (.inl ⟨by rfl, ?_⟩) hSS ?_
        rotate_left
        · intro w hSw; (try dsimp only at hSw); go_simp; (try with_reducible rfl)
        refine wpHd_take (i := 2) (v := ?_) (by kernel_rfl) rfl (by kernel_rfl) (fun _ _ _ h => h) (.inl ⟨by rfl, ?_⟩) hSS ?_
        rotate_left
        · intro w hSw; (try dsimp only at hSw); go_simp; (try with_reducible rfl)
        refine wpHd_take (i := 3) (v := ?_) (by kernel_rfl) rfl (by kernel_rfl) (fun _ _ _ h => h) (.inl ⟨by rfl, ?_⟩) hSS ?_
        rotate_left
        · intro w hSw; (try dsimp only at hSw); go_simp; (try with_reducible rfl)
        refine wpHd_take (i := 4) (v := ?_) (by kernel_rfl) rfl (by kernel_rfl) (fun _ _ _ h => h) (.inl ⟨by rfl, ?_⟩) hSS ?_
        rotate_left
        · intro w hSw; (try dsimp only at hSw); go_simp; (try with_reducible rfl)
        try simp only [Act.put, List.getElem_toArray, List.getElem_cons_succ, List.getElem_cons_zero, List.setIfInBounds_toArray, List.set_cons_zero, List.set_cons_succ]
        refine wpHd_take (i := 5) (v := ?_) (by kernel_rfl) rfl (by kernel_rfl) (fun _ _ _ h => h) (.inl ⟨by rfl, ?_⟩) hSS ?_
        rotate_left
        · intro w hSw; (try dsimp only at hSw); go_simp; (try with_reducible rfl)
        refine wpHd_take (i := 6) (v := ?_) (by kernel_rfl) rfl (by kernel_rfl) (fun _ _ _ h => h) (.inl ⟨by rfl, ?_⟩) hSS ?_
        rotate_left
        · intro w hSw; (try dsimp only at hSw); go_simp; (try with_reducible rfl)
        refine wpHd_take (i := 7) (v := ?_) (by kernel_rfl) rfl (by kernel_rfl) (fun _ _ _ h => h) (.inl ⟨by rfl, ?_⟩) hSS ?_
        rotate_left
        · intro w hSw; (try dsimp only at hSw); go_simp; (try with_reducible rfl)
        refine wpHd_take (i := 8) (v := ?_) (by kernel_rfl) rfl (by kernel_rfl) (fun _ _ _ h => h) (.inl ⟨by rfl, ?_⟩) hSS ?_
        rotate_left
        · intro w hSw; (try dsimp only at hSw); go_simp; (try with_reducible rfl)
        refine wpHd_take (i := 9) (v := ?_) (by kernel_rfl) rfl (by kernel_rfl) (fun _ _ _ h => h) (.inl ⟨by rfl, ?_⟩) hSS ?_
        rotate_left
        · intro w hSw; (try dsimp only at hSw); go_simp; (try with_reducible rfl)
        try simp only [Act.put, List.getElem_toArray, List.getElem_cons_succ, List.getElem_cons_zero, List.setIfInBounds_toArray, List.set_cons_zero, List.set_cons_succ]
        refine wpHd_take (i := 10) (v := ?_) (by kernel_rfl) rfl (by kernel_rfl) (fun _ _ _ h => h) (.inl ⟨by rfl, ?_⟩) hSS ?_
        rotate_left
        · intro w hSw; (try dsimp only at hSw); go_simp; (try with_reducible rfl)
        refine wpHd_take (i := 11) (v := ?_) (by kernel_rfl) rfl (by kernel_rfl) (fun _ _ _ h => h) (.inl ⟨by rfl, ?_⟩) hSS ?_
        rotate_left
        · intro w hSw; (try dsimp only at hSw); go_simp; (try with_reducible rfl)
        refine wpHd_take (i := 12) (v := ?_) (by kernel_rfl) rfl (by kernel_rfl) (fun _ _ _ h => h) (.inl ⟨by rfl, ?_⟩) hSS ?_
        rotate_left
        · intro w hSw; (try dsimp only at hSw); go_simp; (try with_reducible rfl)
        refine wpHd_take (i := 13) (v := ?_) (by kernel_rfl) rfl (by kernel_rfl) (fun _ _ _ h => h) (.inl ⟨by rfl, ?_⟩) hSS ?_
        rotate_left
        · intro w hSw; (try dsimp only at hSw); go_simp; (try with_reducible rfl)
        try simp only [Act.put, List.getElem_toArray, List.getElem_cons_succ, List.getElem_cons_zero, List.setIfInBounds_toArray, List.set_cons_zero, List.set_cons_succ]
        refine wpHd_one (i := 14) rfl (by kernel_rfl) (fun Kc hK => ?_)
        go_simp
        refine (without_any v W6.drew ((HA6.out.q q0 HQ0.out).only ((Only.refl Non W6).drew) fun _ _ => id) HL0.out).mono ?_
        rintro e W7 ⟨v7, rfl, ho7, hn7⟩
        obtain ⟨A7, n7, c7, rfl⟩ : ∃ A n c, v7 = Value.slice A n c := by obtain ⟨A, c, e, _⟩ := ho7.shape; exact ⟨A, _, c, e⟩
        have HV7 := Lib.hid ho7
        have HN7 := Lib.hid ((Only.refl Non W6).drew.trans hn7)
        have k1 := hn7.cell hSS.1 id
        have k2 := hn7.cell hSS.2.1 id
        have k3 := hn7.cell hSS.2.2 id
        clear ho7 hn7
        refine hK.out _ _ ?_ (fun hSS => ?_)
        · exact ⟨by assumption, by assumption, by assumption⟩
        clear hK
        try simp only [Act.put, List.getElem_toArray, List.getElem_cons_succ, List.getElem_cons_zero, List.setIfInBounds_toArray, List.set_cons_zero, List.set_cons_succ]
        refine wpHd_end (by kernel_rfl) ?_
        obtain ⟨hc7, hf7⟩ := (HA6.out.keep HN7.out).cq HQ0.out
        clear hSS k1 k2 k3
        go_upto_region 14 with fail
        have hown7 : OwnInts 3 W7 j.B (.slice A7 n7 c7) ((t0.S q0).erase v) := by
          have h1 := HV7.out.low HA6.out.bs
          rw [erase_filter (HTT.out.ok.dj.nodup q0)] at h1
          exact h1
        have ho8 : Only (RF j) W6 (W7.setCell ⟨j.qb, q0, none⟩ (.slice A7 n7 c7)) := (((Only.refl (RF j) W6).transN HN7.out).setCell (p := ⟨j.qb, q0, none⟩) (.inl (.inr (.inl rfl))) _)
        have HA8 := Lib.hid ((HA6.out.keep HN7.out).setq HQ0.out hown7)
        have HE8 := Lib.hid (ho8.box HE6.out (HNF.out eb HEB.out))
        have HB8 := Lib.hid (ho8.box HB6.out (HNF.out rb HRB.out))
        have HO8 := Lib.hid (HO6.out.trans ho8)
        have hLGe : updN t0.S q0 ((t0.S q0).erase v) P.q = t0.S P.q := by unfold updN; rw [if_neg (by have := HQ0.out; omega)]
        have HLG := Lib.hid (show (updN t0.S q0 ((t0.S q0).erase v) P.q).length ≤ 10000 by rw [hLGe]; have := len64 (i := P.q) HTT.out.ok.dj; omega)
        have HLGe := Lib.hid hLGe
        obtain ⟨NG, hNG⟩ : ∃ NG, NG = (t0.S P.q).length + 1 := ⟨_, rfl⟩
        have HNG := Lib.hid (show (v :: updN t0.S q0 ((t0.S q0).erase v) P.q).length = NG by rw [hLGe, List.length_cons, hNG])
        have HNL := Lib.hid hNG
        clear hNG
        change Code.wp _ _ _ _ (W7.setCell ⟨j.qb, q0, none⟩ (.slice A7 n7 c7))
        clear hc7 hf7 hown7 ho8 HN7 HV7 HA6 HE6 HB6 HO6 HR6 hLGe
        generalize W7.setCell ⟨j.qb, q0, none⟩ (.slice A7 n7 c7) = W8 at *
        have k1 : W8.drew.cell? ⟨j.mb, 4, none⟩ = some gv6 := HA8.out.c4
        have k2 : W8.drew.cell? ⟨eb, 0, none⟩ = some (.int .i64 v) := HE8.out.cellAt rfl
        refine wp_region_tail (S := (fun w' : World => w'.cell? ⟨j.mb, 4, none⟩ = some gv6 ∧ w'.cell? ⟨eb, 0, none⟩ = some (.int .i64 v))) 8 (by kernel_rfl) (by kernel_rfl) ?_ ?_
        · exact ⟨by assumption, by assumption⟩
        intro hSS
        refine wpHd_take (i := 0) (v := ?_) (by kernel_rfl) rfl (by kernel_rfl) (fun _ _ _ h => h) (.inl ⟨by rfl, ?_⟩) hSS ?_
        rotate_left
        · intro w hSw; (try dsimp only at hSw); go_simp; (try with_reducible rfl)
        refine wpHd_take (i := 1) (v := ?_) (by kernel_rfl) rfl (by kernel_rfl) (fun _ _ _ h => h) (.inl ⟨by rfl, ?_⟩) hSS ?_
        rotate_left
        · intro w hSw; (try dsimp only at hSw); go_simp; (try with_reducible rfl)
        refine wpHd_take (i := 2) (v := ?_) (by kernel_rfl) rfl (by kernel_rfl) (fun _ _ _ h => h) (.inl ⟨by rfl, ?_⟩) hSS ?_
        rotate_left
        · intro w hSw; (try dsimp only at hSw); go_simp; (try with_reducible rfl)
        refine wpHd_take (i := 3) (v := ?_) (by kernel_rfl) rfl (by kernel_rfl) (fun _ _ _ h => h) (.inl ⟨by rfl, ?_⟩) hSS ?_
        rotate_left
        · intro w hSw; (try dsimp only at hSw); go_simp; (try with_reducible rfl)
        refine wpHd_take (i := 4) (v := ?_) (by kernel_rfl) rfl (by kernel_rfl) (fun _ _ _ h => h) (.inl ⟨by rfl, ?_⟩) hSS ?_
        rotate_left
        · intro w hSw; (try dsimp only at hSw); go_simp; (try with_reducible rfl)
        try simp only [Act.put, List.getElem_toArray, List.getElem_cons_succ, List.getElem_cons_zero, List.setIfInBounds_toArray, List.set_cons_zero, List.set_cons_succ]
        refine wpHd_take (i := 5) (v := ?_) (by kernel_rfl) rfl (by kernel_rfl) (fun _ _ _ h => h) (.inl ⟨by rfl, ?_⟩) hSS ?_
        rotate_left
        · intro w hSw; (try dsimp only at hSw); go_simp; (try with_reducible rfl)
        refine wpHd_take (i := 6) (v := ?_) (by kernel_rfl) rfl (by kernel_rfl) (fun _ _ _ h => h) (.inl ⟨by rfl, ?_⟩) hSS ?_
        rotate_left
        · intro w hSw; (try dsimp only at hSw); go_simp; (try with_reducible rfl)
        try simp only [Act.put, List.getElem_toArray, List.getElem_cons_succ, List.getElem_cons_zero, List.setIfInBounds_toArray, List.set_cons_zero, List.set_cons_succ]
        refine wpHd_one (i := 7) rfl (by kernel_rfl) (fun Kc hK => ?_)
        go_simp
        refine (ahead_any v W8.drew (HA8.out.g.only ((Only.refl Non W8).drew) fun _ _ => id) HLG.out).mono ?_
        rintro e W9 ⟨v9, rfl, ho9, hn9⟩
        obtain ⟨g9, c9, e9, hc91, hc92⟩ := ho9.some_ (by simp)
        rw [HNG.out] at e9 hc91
        subst e9
        have HV9 := Lib.hid ho9
        have HN9 := Lib.hid ((Only.refl Non W8).drew.trans hn9)
        have k1 := hn9.cell hSS.1 id
        have k2 := hn9.cell hSS.2 id
        clear ho9 hn9
        refine hK.out _ _ ?_ (fun hSS => ?_)
        · exact ⟨by assumption, by assumption⟩
        clear hK
        try simp only [Act.put, List.getElem_toArray, List.getElem_cons_succ, List.getElem_cons_zero, List.setIfInBounds_toArray, List.set_cons_zero, List.set_cons_succ]
        refine wpHd_end (by kernel_rfl) ?_
        have hA9 := HA8.out.keep HN9.out
        have hc9 := hA9.c4
        have hf9 := hA9.box.free 4
        clear hSS k1 k2
        go_upto_region 15 with fail
        have hown9 : OwnInts 3 W9 j.B (.slice (some ⟨g9, 0, none⟩) NG c9) (v :: t0.S P.q) := by
          have h1 := HV9.out.low HA8.out.bs
          have h2 : OwnInts 3 W9 j.B (.slice (some ⟨g9, 0, none⟩) NG c9) (v :: updN t0.S q0 ((t0.S q0).erase v) P.q) := h1
          rw [HLGe.out] at h2
          exact h2
        have hA10 := (hA9.setg hown9 HQ1.out).congr (s' := mqGhosted P t0) (fun k hk => by
          show updN (updN t0.S q0 ((t0.S q0).erase v)) P.q (v :: t0.S P.q) k = toF t0.S P.q (mqVict P t0) k
          rw [HMV.out]
          exact ghosted_eq HTT.out.ok HQ0.out HVI.out k) rfl rfl rfl
        have ho10 : Only (RF j) W8 (W9.setCell ⟨j.mb, 4, none⟩ (.slice (some ⟨g9, 0, none⟩) NG c9)) := (((Only.refl (RF j) W8).transN HN9.out).setCell (p := ⟨j.mb, 4, none⟩) (.inl (.inl rfl)) _)
        have HA10 := Lib.hid hA10
        have HE10 := Lib.hid (ho10.box HE8.out (HNF.out eb HEB.out))
        have HB10 := Lib.hid (ho10.box HB8.out (HNF.out rb HRB.out))
        have HO10 := Lib.hid (HO8.out.trans ho10)
        have HOW10 := Lib.hid (show OwnInts 3 (W9.setCell ⟨j.mb, 4, none⟩ (.slice (some ⟨g9, 0, none⟩) NG c9)) j.B (.slice (some ⟨g9, 0, none⟩) NG c9) (v :: t0.S P.q) from by
          have h1 := hA10.g
          rw [show (mqGhosted P t0).S P.q = v :: t0.S P.q by
            show toF t0.S P.q (mqVict P t0) P.q = _
            rw [HMV.out, ← ghosted_eq HTT.out.ok HQ0.out HVI.out P.q]
            unfold updN
            rw [if_pos rfl]] at h1
          exact h1)
        change Code.wp _ _ _ _ (W9.setCell ⟨j.mb, 4, none⟩ (.slice (some ⟨g9, 0, none⟩) NG c9))
        clear hc9 hf9 hown9 ho10 HN9 HV9 HA8 HE8 HB8 HO8 HLG HLGe hA9 hA10
        generalize W9.setCell ⟨j.mb, 4, none⟩ (.slice (some ⟨g9, 0, none⟩) NG c9) = W10 at *
        have xg4 : W10.cell? ⟨j.mb, 4, none⟩ = some (.slice (some ⟨g9, 0, none⟩) NG c9) := HA10.out.c4
        have xg2 : W10.cell? ⟨j.mb, 2, none⟩ = some (.int .i64 P.ghost) := HA10.out.box.cellAt rfl
        have hg16 := HP.out.g16
        by_cases hgt : P.ghost < NG
        · have hgti : (P.ghost : Int) < NG := by omega
          have HEVE := Lib.hid (evict_trunc HTT.out (q0 := q0) HQ0.out (v := v) HMV.out HVI.out (by rw [← HNL.out]; exact hgt))
          have HGL := Lib.hid (show P.ghost ≤ NG by omega)
          have hgc : (P.ghost : Int) ≤ c9 := by omega
          clear hgt hc91 hc92
          go_quiet (fail)
          have HA11 := Lib.hid (HA10.out.keep ((Only.refl Non W10).drewN nq))
          have HE11 := Lib.hid (show Box (W10.drewN nq) eb 324 (wnC v true 0) from ((Only.refl Non W10).drewN nq).box HE10.out id)
          have HB11 := Lib.hid (show Box (W10.drewN nq) rb 324 (wnC 0 false 0) from ((Only.refl Non W10).drewN nq).box HB10.out id)
          have HO11 := Lib.hid (HO10.out.drewN nq)
          have HOW11 := Lib.hid (HOW10.out.only ((Only.refl Non W10).drewN nq) fun _ _ => id)
          clear xg4 xg2 HA10 HE10 HB10 HO10 HOW10
          generalize W10.drewN nq = W11 at *
          go_upto_region 16 with fail
          have k1 : W11.drew.cell? ⟨j.mb, 4, none⟩ = some (.slice (some ⟨g9, 0, none⟩) NG c9) := HA11.out.c4
          have k2 : W11.drew.cell? ⟨j.mb, 2, none⟩ = some (.int .i64 P.ghost) := HA11.out.box.cellAt rfl
          refine wp_region_tail (S := (fun w' : World => w'.cell? ⟨j.mb, 4, none⟩ = some (.slice (some ⟨g9, 0, none⟩) NG c9) ∧ w'.cell? ⟨j.mb, 2, none⟩ = some (.int .i64 P.ghost))) 10 (by kernel_rfl) (by kernel_rfl) ?_ ?_
          · exact ⟨by assumption, by assumption⟩
          intro hSS
          refine wpHd_take (i := 0) (v := ?_) (by kernel_rfl) rfl (by kernel_rfl) (fun _ _ _ h => h) (.inl ⟨by rfl, ?_⟩) hSS ?_
          rotate_left
          · intro w hSw; (try dsimp only at hSw); go_simp; (try with_reducible rfl)
          refine wpHd_take (i := 1) (v := ?_) (by kernel_rfl) rfl (by kernel_rfl) (fun _ _ _ h => h) (.inl ⟨by rfl, ?_⟩) hSS ?_
          rotate_left
          · intro w hSw; (try dsimp only at hSw); go_simp; (try with_reducible rfl)
          refine wpHd_take (i := 2) (v := ?_) (by kernel_rfl) rfl (by kernel_rfl) (fun _ _ _ h => h) (.inl ⟨by rfl, ?_⟩) hSS ?_
          rotate_left
          · intro w hSw; (try dsimp only at hSw); go_simp; (try with_reducible rfl)
          refine wpHd_take (i := 3) (v := ?_) (by kernel_rfl) rfl (by kernel_rfl) (fun _ _ _ h => h) (.inl ⟨by rfl, ?_⟩) hSS ?_
          rotate_left
          · intro w hSw; (try dsimp only at hSw); go_simp; (try with_reducible rfl)
          refine wpHd_take (i := 4) (v := ?_) (by kernel_rfl) rfl (by kernel_rfl) (fun _ _ _ h => h) (.inl ⟨by rfl, ?_⟩) hSS ?_
          rotate_left
          · intro w hSw; (try dsimp only at hSw); go_simp; (try with_reducible rfl)
          try simp only [Act.put, List.getElem_toArray, List.getElem_cons_succ, List.getElem_cons_zero, List.setIfInBounds_toArray, List.set_cons_zero, List.set_cons_succ]
          refine wpHd_take (i := 5) (v := ?_) (by kernel_rfl) rfl (by kernel_rfl) (fun _ _ _ h => h) (.inl ⟨by rfl, ?_⟩) hSS ?_
          rotate_left
          · intro w hSw; (try dsimp only at hSw); go_simp; (try with_reducible rfl)
          refine wpHd_take (i := 6) (v := ?_) (by kernel_rfl) rfl (by kernel_rfl) (fun _ _ _ h => h) (.inl ⟨by rfl, ?_⟩) hSS ?_
          rotate_left
          · intro w hSw; (try dsimp only at hSw); go_simp; (try with_reducible rfl)
          refine wpHd_take (i := 7) (v := ?_) (by kernel_rfl) rfl (by kernel_rfl) (fun _ _ _ h => h) (.inl ⟨by rfl, ?_⟩) hSS ?_
          rotate_left
          · intro w hSw; (try dsimp only at hSw); go_simp; (try with_reducible rfl)
          refine wpHd_take (i := 8) (v := ?_) (by kernel_rfl) rfl (by kernel_rfl) (fun _ _ _ h => h) (.inl ⟨by rfl, ?_⟩) hSS ?_
          rotate_left
          · intro w hSw; (try dsimp only at hSw); go_simp; (try with_reducible rfl)
          refine wpHd_take (i := 9) (v := ?_) (by kernel_rfl) rfl (by kernel_rfl) (fun _ _ _ h => h) (.inl ⟨by rfl, ?_⟩) hSS ?_
          rotate_left
          · intro w hSw; (try dsimp only at hSw); go_simp; (try with_reducible rfl)
          try simp only [Act.put, List.getElem_toArray, List.getElem_cons_succ, List.getElem_cons_zero, List.setIfInBounds_toArray, List.set_cons_zero, List.set_cons_succ]
          refine wpHd_end (by kernel_rfl) ?_
          have z1 : W11.drew.cell? ⟨j.mb, 4, none⟩ = some (.slice (some ⟨g9, 0, none⟩) NG c9) := HA11.out.c4
          have z2 : W11.drew.frozen? ⟨j.mb, 4, none⟩ = false := HA11.out.box.free 4
          clear hSS k1 k2
          go_upto_region 17 with fail
          have hown12 : OwnInts 3 W11.drew j.B (.slice (some ⟨g9, 0, none⟩) P.ghost c9) ((v :: t0.S P.q).take P.ghost) := by
            have h1 := HOW11.out.only ((Only.refl Non W11).drew) fun _ _ => id
            have h2 : OwnInts 3 W11.drew j.B (.slice (some ⟨g9, 0, none⟩) (v :: t0.S P.q).length c9) (v :: t0.S P.q) := by
              rw [List.length_cons, ← HNL.out]; exact h1
            exact h2.take (by rw [List.length_cons, ← HNL.out]; exact HGL.out)
          have HRt := Lib.hid (show RMq j P (mqEvict P t0) (W11.drew.setCell ⟨j.mb, 4, none⟩ (.slice (some ⟨g9, 0, none⟩) P.ghost c9)) from ⟨_, _, by
            rw [HEVE.out.1]
            exact ((HA11.out.keep ((Only.refl Non W11).drew)).setg hown12 HQ1.out).congr (fun k hk => HEVE.out.2 k) rfl rfl rfl⟩)
          have ho12 : Only (RF j) W11 (W11.drew.setCell ⟨j.mb, 4, none⟩ (.slice (some ⟨g9, 0, none⟩) P.ghost c9)) := ((Only.refl (RF j) W11).drew).setCell (p := ⟨j.mb, 4, none⟩) (.inl (.inl rfl)) _
          have HBe := Lib.hid (ho12.box HE11.out (HNF.out eb HEB.out))
          have HBr := Lib.hid (ho12.box HB11.out (HNF.out rb HRB.out))
          have HOw := Lib.hid (HO11.out.trans ho12)
          change Code.wp _ _ _ _ (W11.drew.setCell ⟨j.mb, 4, none⟩ (.slice (some ⟨g9, 0, none⟩) P.ghost c9))
          clear z1 z2 hown12 ho12 HA11 HE11 HB11 HO11 HOW11
          generalize W11.drew.setCell ⟨j.mb, 4, none⟩ (.slice (some ⟨g9, 0, none⟩) P.ghost c9) = W at *
          have HTK := Lib.hid HEVI.out.1
          have HTN := Lib.hid (show 1 ≤ (mqEvict P t0).now ∧ (mqEvict P t0).now ≤ 1000000001 by rw [HEVI.out.2.1]; exact HTTN.out)
          have HTO := Lib.hid (show ∀ y, (mqEvict P t0).often y + 1 ≤ (mqEvict P t0).now from fun y => by rw [HEVI.out.2.1, HEVI.out.2.2.1]; exact HTTO.out y)
          have HNA := Lib.hid (show (n : Int) ∉ mqAll P (mqEvict P t0) from fun h => HNB.out ((HEVI.out.2.2.2.2 _).1 h).1)
          have HEQ := Lib.hid HEQ0.out
          clear HAD HEQ0 HTT HTTN HTTO HNB HEVI HEVE HVI HVE
          generalize mqEvict P t0 = t at *
          obtain ⟨gvp, qvp, hAp⟩ := HRt.out
          have HAp := Lib.hid hAp
          have xp4 := hAp.c4
          obtain ⟨Ap, cp, ep, hp1, hp2⟩ := hAp.g.shape
          have HHS := has_ints Ap cp _ (t.S P.q) n W (by rw [← ep]; exact hAp.g.at) (Nat.le_trans hp1 hp2)
          rw [ep] at xp4
          clear ep hp1 hp2 hAp
          by_cases hin : (n : Int) ∈ t.S P.q
          · rw [decide_eq_true hin] at HHS
            have HHS := Lib.hid HHS
            have HFE := Lib.hid (show mqFresh P t n = t by unfold mqFresh; rw [if_pos ((mqIn_iff HTK.out.dj).2 ⟨P.q, hin⟩)])
            have HU9 := Lib.hid (rmq_used HRt.out HTK.out HP.out HN.out (HTO.out n) (by have := HTN.out; omega))
            rw [HFE.out] at HEQ
            clear hin
            go_wp2_with (first | (go_at_call 43; refine HHS.out.mono ?_; rintro e W8 ⟨rfl, rfl⟩) | (go_at_call 268; refine HU9.out.mono ?_; rintro e W9 ⟨rfl, hr9, ho9⟩; have HBE9 := Lib.hid (ho9.box HBe.out (HNF.out eb HEB.out)); have HBR9 := Lib.hid (ho9.box HBr.out (HNF.out rb HRB.out)); have HR9 := Lib.hid hr9; have HO9 := Lib.hid (HOw.out.trans ho9); clear hr9 ho9) | (refine wpList_load_row rfl 324 _ rfl eb rfl 324 (wnC v true 0) (0, 0) _ HBE9.out Tryz.underlying324 rfl (by kernel_rfl) ?_) | (refine wpList_store_row rfl 324 _ _ rfl rb (wnC v true 0) rfl rfl 324 _ HBR9.out (by kernel_rfl) rfl (wnC_one _ _ _) ?_))
            (try simp only [Exit.inBlock, Exit.then])
            refine bodyPost_ret (results_cell_row rfl _ _ rb _ (wnC v true 0) (0, 0) _ rfl (HBR9.out.setRow' _) Tryz.underlying324 rfl (by kernel_rfl)) rfl ?_
            exact ⟨by rw [HEQ.out], by rw [HEQ.out]; exact HR9.out.offT HBR9.out ((Only.refl (Just rb) _).setRow' (.inl rfl) _), HO9.out.setRow' (.inr HRB.out) _⟩
          · rw [decide_eq_false hin] at HHS
            have HHS := Lib.hid HHS
            have HFE := Lib.hid (show mqFresh P t n = { t with often := updI t.often n 0 } by
              unfold mqFresh
              rw [if_neg]
              intro h2
              obtain ⟨i, hi⟩ := (mqIn_iff HTK.out.dj).1 h2
              by_cases e : i < P.q
              · exact HNA.out (mem_all.2 ⟨i, e, hi⟩)
              · by_cases e2 : i = P.q
                · exact hin (e2 ▸ hi)
                · rw [HTK.out.dj.out i (by omega)] at hi; cases hi)
            have xp5 := HAp.out.c5
            have xpo : W.cell? ⟨j.ob, n, none⟩ = some (.int .i64 (t.often n)) := HAp.out.of.cellAt (fiC_at _ HN.out)
            have xpf : W.frozen? ⟨j.ob, n, none⟩ = false := HAp.out.of.free n
            have HRf := Lib.hid (show RMq j P (mqFresh P t n) (W.setCell ⟨j.ob, n, none⟩ (.int .i64 0)) from ⟨gvp, qvp, by rw [HFE.out]; exact HAp.out.seto HN.out 0 HQ1.out⟩)
            have ho8 : Only (RF j) W (W.setCell ⟨j.ob, n, none⟩ (.int .i64 0)) := (Only.refl (RF j) W).setCell (p := ⟨j.ob, n, none⟩) (.inl (.inr (.inr (.inl rfl)))) _
            have HO8 := Lib.hid (HOw.out.trans ho8)
            have HB8 := Lib.hid (ho8.box HBr.out (HNF.out rb HRB.out))
            have HE8 := Lib.hid (ho8.box HBe.out (HNF.out eb HEB.out))
            have HF8 := Lib.hid (fresh_inv HTK.out (n : Int) HTN.out.1 HTO.out)
            clear hin ho8
            go_upto_region 19 with (go_at_call 43; refine HHS.out.mono ?_; rintro e W8 ⟨rfl, rfl⟩)
            change Code.wp _ _ _ _ (W.setCell ⟨j.ob, n, none⟩ (.int .i64 0))
            clear xp4 xp5 xpo xpf HOw HBr HBe HHS HAp HRt
            generalize W.setCell ⟨j.ob, n, none⟩ (.int .i64 0) = Wf at *
            have HOw := Lib.hid HO8.out
            have HBr := Lib.hid HB8.out
            have HBe := Lib.hid HE8.out
            have HU9 := Lib.hid (rmq_used HRf.out HF8.out.1 HP.out HN.out (by have h1 := HF8.out.2.2.2; have h2 := HF8.out.2.1; omega) (by have := HTN.out; have h2 := HF8.out.2.1; omega))
            clear HO8 HB8 HE8
            go_wp2_with (first | (go_at_call 268; refine HU9.out.mono ?_; rintro e W9 ⟨rfl, hr9, ho9⟩; have HBE9 := Lib.hid (ho9.box HBe.out (HNF.out eb HEB.out)); have HBR9 := Lib.hid (ho9.box HBr.out (HNF.out rb HRB.out)); have HR9 := Lib.hid hr9; have HO9 := Lib.hid (HOw.out.trans ho9); clear hr9 ho9) | (refine wpList_load_row rfl 324 _ rfl eb rfl 324 (wnC v true 0) (0, 0) _ HBE9.out Tryz.underlying324 rfl (by kernel_rfl) ?_) | (refine wpList_store_row rfl 324 _ _ rfl rb (wnC v true 0) rfl rfl 324 _ HBR9.out (by kernel_rfl) rfl (wnC_one _ _ _) ?_))
            (try simp only [Exit.inBlock, Exit.then])
            refine bodyPost_ret (results_cell_row rfl _ _ rb _ (wnC v true 0) (0, 0) _ rfl (HBR9.out.setRow' _) Tryz.underlying324 rfl (by kernel_rfl)) rfl ?_
            exact ⟨by rw [HEQ.out], by rw [HEQ.out]; exact HR9.out.offT HBR9.out ((Only.refl (Just rb) _).setRow' (.inl rfl) _), HO9.out.setRow' (.inr HRB.out) _⟩
        · have HEVE := Lib.hid (evict_whole HTT.out (q0 := q0) HQ0.out (v := v) HMV.out HVI.out (by rw [← HNL.out]; exact hgt))
          have hgti : (NG : Int) ≤ P.ghost := by omega
          clear hgt hc91 hc92
          go_quiet (fail)
          have HRt := Lib.hid (show RMq j P (mqEvict P t0) (W10.drewN nq) from ⟨_, _, by rw [HEVE.out]; exact HA10.out.keep ((Only.refl Non W10).drewN nq)⟩)
          have HBe := Lib.hid (show Box (W10.drewN nq) eb 324 (wnC v true 0) from ((Only.refl Non W10).drewN nq).box HE10.out id)
          have HBr := Lib.hid (show Box (W10.drewN nq) rb 324 (wnC 0 false 0) from ((Only.refl Non W10).drewN nq).box HB10.out id)
          have HOw := Lib.hid (HO10.out.drewN nq)
          clear xg4 xg2 HA10 HE10 HB10 HO10 HOW10
          generalize W10.drewN nq = W at *
          go_upto_region 17 with fail
          have HTK := Lib.hid HEVI.out.1
          have HTN := Lib.hid (show 1 ≤ (mqEvict P t0).now ∧ (mqEvict P t0).now ≤ 1000000001 by rw [HEVI.out.2.1]; exact HTTN.out)
          have HTO := Lib.hid (show ∀ y, (mqEvict P t0).often y + 1 ≤ (mqEvict P t0).now from fun y => by rw [HEVI.out.2.1, HEVI.out.2.2.1]; exact HTTO.out y)
          have HNA := Lib.hid (show (n : Int) ∉ mqAll P (mqEvict P t0) from fun h => HNB.out ((HEVI.out.2.2.2.2 _).1 h).1)
          have HEQ := Lib.hid HEQ0.out
          clear HAD HEQ0 HTT HTTN HTTO HNB HEVI HEVE HVI HVE
          generalize mqEvict P t0 = t at *
          obtain ⟨gvp, qvp, hAp⟩ := HRt.out
          have HAp := Lib.hid hAp
          have xp4 := hAp.c4
          obtain ⟨Ap, cp, ep, hp1, hp2⟩ := hAp.g.shape
          have HHS := has_ints Ap cp _ (t.S P.q) n W (by rw [← ep]; exact hAp.g.at) (Nat.le_trans hp1 hp2)
          rw [ep] at xp4
          clear ep hp1 hp2 hAp
          by_cases hin : (n : Int) ∈ t.S P.q
          · rw [decide_eq_true hin] at HHS
            have HHS := Lib.hid HHS
            have HFE := Lib.hid (show mqFresh P t n = t by unfold mqFresh; rw [if_pos ((mqIn_iff HTK.out.dj).2 ⟨P.q, hin⟩)])
            have HU9 := Lib.hid (rmq_used HRt.out HTK.out HP.out HN.out (HTO.out n) (by have := HTN.out; omega))
            rw [HFE.out] at HEQ
            clear hin
            go_wp2_with (first | (go_at_call 43; refine HHS.out.mono ?_; rintro e W8 ⟨rfl, rfl⟩) | (go_at_call 268; refine HU9.out.mono ?_; rintro e W9 ⟨rfl, hr9, ho9⟩; have HBE9 := Lib.hid (ho9.box HBe.out (HNF.out eb HEB.out)); have HBR9 := Lib.hid (ho9.box HBr.out (HNF.out rb HRB.out)); have HR9 := Lib.hid hr9; have HO9 := Lib.hid (HOw.out.trans ho9); clear hr9 ho9) | (refine wpList_load_row rfl 324 _ rfl eb rfl 324 (wnC v true 0) (0, 0) _ HBE9.out Tryz.underlying324 rfl (by kernel_rfl) ?_) | (refine wpList_store_row rfl 324 _ _ rfl rb (wnC v true 0) rfl rfl 324 _ HBR9.out (by kernel_rfl) rfl (wnC_one _ _ _) ?_))
            (try simp only [Exit.inBlock, Exit.then])
            refine bodyPost_ret (results_cell_row rfl _ _ rb _ (wnC v true 0) (0, 0) _ rfl (HBR9.out.setRow' _) Tryz.underlying324 rfl (by kernel_rfl)) rfl ?_
            exact ⟨by rw [HEQ.out], by rw [HEQ.out]; exact HR9.out.offT HBR9.out ((Only.refl (Just rb) _).setRow' (.inl rfl) _), HO9.out.setRow' (.inr HRB.out) _⟩
          · rw [decide_eq_false hin] at HHS
            have HHS := Lib.hid HHS
            have HFE := Lib.hid (show mqFresh P t n = { t with often := updI t.often n 0 } by
              unfold mqFresh
              rw [if_neg]
              intro h2
              obtain ⟨i, hi⟩ := (mqIn_iff HTK.out.dj).1 h2
              by_cases e : i < P.q
              · exact HNA.out (mem_all.2 ⟨i, e, hi⟩)
              · by_cases e2 : i = P.q
                · exact hin (e2 ▸ hi)
                · rw [HTK.out.dj.out i (by omega)] at hi; cases hi)
            have xp5 := HAp.out.c5
            have xpo : W.cell? ⟨j.ob, n, none⟩ = some (.int .i64 (t.often n)) := HAp.out.of.cellAt (fiC_at _ HN.out)
            have xpf : W.frozen? ⟨j.ob, n, none⟩ = false := HAp.out.of.free n
            have HRf := Lib.hid (show RMq j P (mqFresh P t n) (W.setCell ⟨j.ob, n, none⟩ (.int .i64 0)) from ⟨gvp, qvp, by rw [HFE.out]; exact HAp.out.seto HN.out 0 HQ1.out⟩)
            have ho8 : Only (RF j) W (W.setCell ⟨j.ob, n, none⟩ (.int .i64 0)) := (Only.refl (RF j) W).setCell (p := ⟨j.ob, n, none⟩) (.inl (.inr (.inr (.inl rfl)))) _
            have HO8 := Lib.hid (HOw.out.trans ho8)
            have HB8 := Lib.hid (ho8.box HBr.out (HNF.out rb HRB.out))
            have HE8 := Lib.hid (ho8.box HBe.out (HNF.out eb HEB.out))
            have HF8 := Lib.hid (fresh_inv HTK.out (n : Int) HTN.out.1 HTO.out)
            clear hin ho8
            go_upto_region 19 with (go_at_call 43; refine HHS.out.mono ?_; rintro e W8 ⟨rfl, rfl⟩)
            change Code.wp _ _ _ _ (W.setCell ⟨j.ob, n, none⟩ (.int .i64 0))
            clear xp4 xp5 xpo xpf HOw HBr HBe HHS HAp HRt
            generalize W.setCell ⟨j.ob, n, none⟩ (.int .i64 0) = Wf at *
            have HOw := Lib.hid HO8.out
            have HBr := Lib.hid HB8.out
            have HBe := Lib.hid HE8.out
            have HU9 := Lib.hid (rmq_used HRf.out HF8.out.1 HP.out HN.out (by have h1 := HF8.out.2.2.2; have h2 := HF8.out.2.1; omega) (by have := HTN.out; have h2 := HF8.out.2.1; omega))
            clear HO8 HB8 HE8
            go_wp2_with (first | (go_at_call 268; refine HU9.out.mono ?_; rintro e W9 ⟨rfl, hr9, ho9⟩; have HBE9 := Lib.hid (ho9.box HBe.out (HNF.out eb HEB.out)); have HBR9 := Lib.hid (ho9.box HBr.out (HNF.out rb HRB.out)); have HR9 := Lib.hid hr9; have HO9 := Lib.hid (HOw.out.trans ho9); clear hr9 ho9) | (refine wpList_load_row rfl 324 _ rfl eb rfl 324 (wnC v true 0) (0, 0) _ HBE9.out Tryz.underlying324 rfl (by kernel_rfl) ?_) | (refine wpList_store_row rfl 324 _ _ rfl rb (wnC v true 0) rfl rfl 324 _ HBR9.out (by kernel_rfl) rfl (wnC_one _ _ _) ?_))
            (try simp only [Exit.inBlock, Exit.then])
            refine bodyPost_ret (results_cell_row rfl _ _ rb _ (wnC v true 0) (0, 0) _ rfl (HBR9.out.setRow' _) Tryz.underlying324 rfl (by kernel_rfl)) rfl ?_
            exact ⟨by rw [HEQ.out], by rw [HEQ.out]; exact HR9.out.offT HBR9.out ((Only.refl (Just rb) _).setRow' (.inl rfl) _), HO9.out.setRow' (.inr HRB.out) _⟩
      · have hz := HZ0.out k (by omega)
        have hzl : (t0.S k).length = 0 := by rw [hz]; rfl
        rw [hzl] at hcq
        have hkw : IntKind.i64.wrap ((k : Int) + 1) = (k : Int) + 1 := by rw [IntKind.wrap_i64]; omega
        have HKL := Lib.hid (show k + 1 ≤ q0 by omega)
        clear hown eq h1 h2 hat hz hzl hk hke hkq hA5
        go_wp2
        go_roundw
        case rel => exact ⟨k + 1, HKL.out, by push_cast; rfl, rfl⟩
        case measure => simp [intOf]; have := HKL.out; omega
  · have HEQ := Lib.hid (HAD.out.trans (if_neg hc))
    have hci : ¬ ((mqAll P t0).length : Int) = (P.cap : Int) := by omega
    have hcb : (((mqAll P t0).length : Int) == (P.cap : Int)) = false := by simpa using hci
    clear hc
    generalize (mqAll P t0).length = ln at *
    go_quiet ((go_at_call 269; exact quiet_l (HLN.out _)))
    have HRt := Lib.hid (HR4.out.keep ((Only.refl Non W4).drewN nq))
    have HBr := Lib.hid (show Box (W4.drewN nq) rb 324 (wnC 0 false 0) from ((Only.refl Non W4).drewN nq).box HB4.out id)
    have HBe := Lib.hid (show Box (W4.drewN nq) eb 324 (wnC 0 false 0) from ((Only.refl Non W4).drewN nq).box HE4.out id)
    have HOw := Lib.hid (HO4.out.drewN nq)
    clear x0 HLN HR4 HB4 HE4 HO4
    generalize W4.drewN nq = W at *
    have HTK := Lib.hid HTT.out.ok
    have HTN := Lib.hid HTTN.out
    have HTO := Lib.hid HTTO.out
    have HNA := Lib.hid HNB.out
    clear HAD HTT HTTN HTTO HNB
    generalize t0 = t at *
    go_upto_region 17 with fail
    obtain ⟨gvp, qvp, hAp⟩ := HRt.out
    have HAp := Lib.hid hAp
    have xp4 := hAp.c4
    obtain ⟨Ap, cp, ep, hp1, hp2⟩ := hAp.g.shape
    have HHS := has_ints Ap cp _ (t.S P.q) n W (by rw [← ep]; exact hAp.g.at) (Nat.le_trans hp1 hp2)
    rw [ep] at xp4
    clear ep hp1 hp2 hAp
    by_cases hin : (n : Int) ∈ t.S P.q
    · rw [decide_eq_true hin] at HHS
      have HHS := Lib.hid HHS
      have HFE := Lib.hid (show mqFresh P t n = t by unfold mqFresh; rw [if_pos ((mqIn_iff HTK.out.dj).2 ⟨P.q, hin⟩)])
      have HU9 := Lib.hid (rmq_used HRt.out HTK.out HP.out HN.out (HTO.out n) (by have := HTN.out; omega))
      rw [HFE.out] at HEQ
      clear hin
      go_wp2_with (first | (go_at_call 43; refine HHS.out.mono ?_; rintro e W8 ⟨rfl, rfl⟩) | (go_at_call 268; refine HU9.out.mono ?_; rintro e W9 ⟨rfl, hr9, ho9⟩; have HBE9 := Lib.hid (ho9.box HBe.out (HNF.out eb HEB.out)); have HBR9 := Lib.hid (ho9.box HBr.out (HNF.out rb HRB.out)); have HR9 := Lib.hid hr9; have HO9 := Lib.hid (HOw.out.trans ho9); clear hr9 ho9) | (refine wpList_load_row rfl 324 _ rfl eb rfl 324 (wnC 0 false 0) (0, 0) _ HBE9.out Tryz.underlying324 rfl (by kernel_rfl) ?_) | (refine wpList_store_row rfl 324 _ _ rfl rb (wnC 0 false 0) rfl rfl 324 _ HBR9.out (by kernel_rfl) rfl (wnC_one _ _ _) ?_))
      (try simp only [Exit.inBlock, Exit.then])
      refine bodyPost_ret (results_cell_row rfl _ _ rb _ (wnC 0 false 0) (0, 0) _ rfl (HBR9.out.setRow' _) Tryz.underlying324 rfl (by kernel_rfl)) rfl ?_
      exact ⟨by rw [HEQ.out], by rw [HEQ.out]; exact HR9.out.offT HBR9.out ((Only.refl (Just rb) _).setRow' (.inl rfl) _), HO9.out.setRow' (.inr HRB.out) _⟩
    · rw [decide_eq_false hin] at HHS
      have HHS := Lib.hid HHS
      have HFE := Lib.hid (show mqFresh P t n = { t with often := updI t.often n 0 } by
        unfold mqFresh
        rw [if_neg]
        intro h2
        obtain ⟨i, hi⟩ := (mqIn_iff HTK.out.dj).1 h2
        by_cases e : i < P.q
        · exact HNA.out (mem_all.2 ⟨i, e, hi⟩)
        · by_cases e2 : i = P.q
          · exact hin (e2 ▸ hi)
          · rw [HTK.out.dj.out i (by omega)] at hi; cases hi)
      have xp5 := HAp.out.c5
      have xpo : W.cell? ⟨j.ob, n, none⟩ = some (.int .i64 (t.often n)) := HAp.out.of.cellAt (fiC_at _ HN.out)
      have xpf : W.frozen? ⟨j.ob, n, none⟩ = false := HAp.out.of.free n
      have HRf := Lib.hid (show RMq j P (mqFresh P t n) (W.setCell ⟨j.ob, n, none⟩ (.int .i64 0)) from ⟨gvp, qvp, by rw [HFE.out]; exact HAp.out.seto HN.out 0 HQ1.out⟩)
      have ho8 : Only (RF j) W (W.setCell ⟨j.ob, n, none⟩ (.int .i64 0)) := (Only.refl (RF j) W).setCell (p := ⟨j.ob, n, none⟩) (.inl (.inr (.inr (.inl rfl)))) _
      have HO8 := Lib.hid (HOw.out.trans ho8)
      have HB8 := Lib.hid (ho8.box HBr.out (HNF.out rb HRB.out))
      have HE8 := Lib.hid (ho8.box HBe.out (HNF.out eb HEB.out))
      have HF8 := Lib.hid (fresh_inv HTK.out (n : Int) HTN.out.1 HTO.out)
      clear hin ho8
      go_upto_region 19 with (go_at_call 43; refine HHS.out.mono ?_; rintro e W8 ⟨rfl, rfl⟩)
      change Code.wp _ _ _ _ (W.setCell ⟨j.ob, n, none⟩ (.int .i64 0))
      clear xp4 xp5 xpo xpf HOw HBr HBe HHS HAp HRt
      generalize W.setCell ⟨j.ob, n, none⟩ (.int .i64 0) = Wf at *
      have HOw := Lib.hid HO8.out
      have HBr := Lib.hid HB8.out
      have HBe := Lib.hid HE8.out
      have HU9 := Lib.hid (rmq_used HRf.out HF8.out.1 HP.out HN.out (by have h1 := HF8.out.2.2.2; have h2 := HF8.out.2.1; omega) (by have := HTN.out; have h2 := HF8.out.2.1; omega))
      clear HO8 HB8 HE8
      go_wp2_with (first | (go_at_call 268; refine HU9.out.mono ?_; rintro e W9 ⟨rfl, hr9, ho9⟩; have HBE9 := Lib.hid (ho9.box HBe.out (HNF.out eb HEB.out)); have HBR9 := Lib.hid (ho9.box HBr.out (HNF.out rb HRB.out)); have HR9 := Lib.hid hr9; have HO9 := Lib.hid (HOw.out.trans ho9); clear hr9 ho9) | (refine wpList_load_row rfl 324 _ rfl eb rfl 324 (wnC 0 false 0) (0, 0) _ HBE9.out Tryz.underlying324 rfl (by kernel_rfl) ?_) | (refine wpList_store_row rfl 324 _ _ rfl rb (wnC 0 false 0) rfl rfl 324 _ HBR9.out (by kernel_rfl) rfl (wnC_one _ _ _) ?_))
      (try simp only [Exit.inBlock, Exit.then])
      refine bodyPost_ret (results_cell_row rfl _ _ rb _ (wnC 0 false 0) (0, 0) _ rfl (HBR9.out.setRow' _) Tryz.underlying324 rfl (by kernel_rfl)) rfl ?_
      exact ⟨by rw [HEQ.out], by rw [HEQ.out]; exact HR9.out.offT HBR9.out ((Only.refl (Just rb) _).setRow' (.inl rfl) _), HO9.out.setRow' (.inr HRB.out) _⟩
end
def dwC (l : Value) (v : Int) (g was : Bool) (e : Int) : Array Value := #[l, .int .i64 v, .bool g, .bool was, .int .i64 e]
theorem dwC_one (A : Option Addr) (n c : Nat) (v : Int) (g was : Bool) (e : Int) : (dwC (.slice A n c) v g was e).all (·.oneCell') = true := by simp [dwC, Value.oneCell']
def DoPost (base : Nat) (L' : List Int) (v : Int) (g was : Bool) (w : World) (e : Ending) (w' : World) : Prop :=
  ∃ A n c, e = .returned (.agg (dwC (.slice A n c) v g was 0)) ∧ OwnInts 3 w' base (.slice A n c) L' ∧ Only Non w w'
section
set_option maxHeartbeats 4000000
set_option maxRecDepth 100000
variable {base : Nat} {lv : Value} {L : List Int} {w : World} {cap : Nat} {b : Int}
theorem rlru_rem (h : OwnInts 3 w base lv L) (hz : base ≤ w.heap.size) (hl : L.length ≤ 64) :
    Calls Tryz.prog 220 #[lv, .int .i64 cap, .agg #[.int .i64 2, .int .i64 b]] w (DoPost base (L.filter (· != b)) 0 false (decide (b ∈ L)) w) := by
  obtain ⟨A, c, rfl, hc1, hc2⟩ := h.shape
  have HL := Lib.hid h
  have HZ := Lib.hid hz
  have HA1 := Lib.hid (Box.fresh w 255 #[.int .i64 2, .int .i64 b])
  have ho1 : Only Non w (w.alloc (.cells #[.int .i64 2, .int .i64 b] 255)) := (Only.refl Non w).alloc _
  have HO1 := Lib.hid ho1
  clear h hz ho1
  go_enter Tryz.func220, Tryz.ntmps220
  go_upto_region 1 with fail
  change Code.wp _ _ _ _ ((w.alloc (.cells #[.int .i64 2, .int .i64 b] 255)).alloc (.cells (dwC (.slice none 0 0) 0 false false 0) 252))
  have hsz : (w.alloc (.cells #[.int .i64 2, .int .i64 b] 255)).heap.size = w.heap.size + 1 := World.size_alloc ..
  generalize w.alloc (.cells #[.int .i64 2, .int .i64 b] 255) = W0 at *
  obtain ⟨ab, hab⟩ : ∃ ab, ab = w.heap.size := ⟨_, rfl⟩
  have HAB := Lib.hid (show w.heap.size ≤ ab from Nat.le_of_eq hab.symm)
  rw [← hab] at HA1 hsz ⊢
  clear hab
  have HR1 := Lib.hid (Box.fresh W0 252 (dwC (.slice none 0 0) 0 false false 0))
  have ho1 : Only Non W0 (W0.alloc (.cells (dwC (.slice none 0 0) 0 false false 0) 252)) := (Only.refl Non W0).alloc _
  have HA2 := Lib.hid (ho1.box HA1.out id)
  have HO2 := Lib.hid (HO1.out.trans ho1)
  have HRB := Lib.hid (show w.heap.size ≤ W0.heap.size from HO1.out.size)
  clear ho1 HA1 HO1
  generalize W0.alloc (.cells (dwC (.slice none 0 0) 0 false false 0) 252) = W1 at *
  rw [hsz] at HR1 HRB
  clear hsz
  generalize ab + 1 = rb at *
  have HLA := Lib.hid (HL.out.only HO2.out fun _ _ => id)
  have HHS := Lib.hid (has_ints A c _ L b W1 HLA.out.at (Nat.le_trans hc1 hc2))
  have y0 : W1.cell? ⟨ab, 0, none⟩ = some (.int .i64 2) := HA2.out.cellAt rfl
  have y1 : W1.cell? ⟨ab, 1, none⟩ = some (.int .i64 b) := HA2.out.cellAt rfl
  generalize hwas : decide (b ∈ L) = was at *
  have HWAS := Lib.hid hwas
  clear hwas
  go_upto_region 2 with (go_at_call 43; refine HHS.out.mono ?_; rintro e W ⟨rfl, rfl⟩)
  change Code.wp _ _ _ _ (W1.alloc (.cells (dwC (.slice A L.length c) 0 false was 0) 252))
  have HE1 := Lib.hid (Box.fresh W1 252 (dwC (.slice A L.length c) 0 false was 0))
  have ho1 : Only Non W1 (W1.alloc (.cells (dwC (.slice A L.length c) 0 false was 0) 252)) := (Only.refl Non W1).alloc _
  have HR2 := Lib.hid (ho1.box HR1.out id)
  have HA3 := Lib.hid (ho1.box HA2.out id)
  have HO3 := Lib.hid (HO2.out.trans ho1)
  have HEB := Lib.hid (show w.heap.size ≤ W1.heap.size ∧ rb < W1.heap.size from ⟨HO2.out.size, HR1.out.lt⟩)
  clear ho1 HHS HR1 HA2 HO2 HLA y0 y1
  generalize W1.alloc (.cells (dwC (.slice A L.length c) 0 false was 0) 252) = W2 at *
  generalize W1.heap.size = eb at *
  have HWO := Lib.hid (without_any b W2 (HL.out.only HO3.out fun _ _ => id) (by omega))
  have y0 : W2.cell? ⟨ab, 0, none⟩ = some (.int .i64 2) := HA3.out.cellAt rfl
  have y1 : W2.cell? ⟨ab, 1, none⟩ = some (.int .i64 b) := HA3.out.cellAt rfl
  have HLL := Lib.hid hl
  clear hl
  go_upto_region 3 with (go_at_call 265; refine HWO.out.mono ?_; rintro e W3 ⟨v3, rfl, ho3, hn3⟩; obtain ⟨A3, c3, e3, hc31, hc32⟩ := ho3.shape; generalize hn3e : (L.filter (· != b)).length = n3 at *; subst e3; have HV3 := Lib.hid (ho3.low (base' := base) (Nat.le_trans HZ.out HO3.out.size)); have HN3 := Lib.hid hn3; clear ho3 hn3)
  have HE3 := Lib.hid (HN3.out.box HE1.out id)
  have HR3 := Lib.hid (HN3.out.box HR2.out id)
  have HA4 := Lib.hid (HN3.out.box HA3.out id)
  have HO4 := Lib.hid (HO3.out.trans HN3.out)
  clear HE1 HR2 HA3 HO3 HN3 y0 y1 HWO
  have y0 : W3.cell? ⟨ab, 0, none⟩ = some (.int .i64 2) := HA4.out.cellAt rfl
  have y1 : W3.cell? ⟨ab, 1, none⟩ = some (.int .i64 b) := HA4.out.cellAt rfl
  have z0 : W3.cell? ⟨eb, 0, none⟩ = some (.slice A L.length c) := HE3.out.cellAt rfl
  have zf : W3.frozen? ⟨eb, 0, none⟩ = false := HE3.out.free 0
  go_upto_region 5 with fail
  have ho5 : Only (Just eb) W3 (W3.setCell ⟨eb, 0, none⟩ (.slice A3 n3 c3)) := (Only.refl (Just eb) W3).setCell (p := ⟨eb, 0, none⟩) (.inl (show Just eb eb from rfl)) _
  have HE5 := Lib.hid (show Box _ eb 252 (dwC (.slice A3 n3 c3) 0 false was 0) from HE3.out.store 0 (.slice A3 n3 c3))
  have HR5 := Lib.hid (ho5.box HR3.out (fun e => by have h9 : rb = eb := e; have := HEB.out; omega))
  have HO5 := Lib.hid (HO4.out.setCell (p := ⟨eb, 0, none⟩) (.inr HEB.out.1) (.slice A3 n3 c3))
  have HV5 := Lib.hid (HV3.out.only ho5 fun g hg e => by
    obtain ⟨cs, h9⟩ := HV3.out.boxOf hg
    exact (h9.off HE3.out (by decide)) e)
  change Code.wp _ _ _ _ (W3.setCell ⟨eb, 0, none⟩ (.slice A3 n3 c3))
  clear z0 zf ho5 HE3 HR3 HO4 HV3 y0 y1 HA4
  generalize W3.setCell ⟨eb, 0, none⟩ (.slice A3 n3 c3) = W5 at *
  go_wp2_with (first | (refine wpList_load_row rfl 252 _ rfl eb rfl 252 (dwC (.slice A3 n3 c3) 0 false was 0) (0, 0) _ HE5.out Tryz.underlying252 rfl (by kernel_rfl) ?_) | (refine wpList_store_row rfl 252 _ _ rfl rb (dwC (.slice A3 n3 c3) 0 false was 0) rfl rfl 252 _ HR5.out (by kernel_rfl) rfl (dwC_one _ _ _ _ _ _ _) ?_))
  (try simp only [Exit.inBlock, Exit.then])
  refine bodyPost_ret (results_cell_row rfl _ _ rb _ (dwC (.slice A3 n3 c3) 0 false was 0) (0, 0) _ rfl (HR5.out.setRow' _) Tryz.underlying252 rfl (by kernel_rfl)) rfl ?_
  have hos : Only (Just rb) W5 (W5.setRow rb (dwC (.slice A3 n3 c3) 0 false was 0)) := (Only.refl (Just rb) W5).setRow' (.inl rfl) _
  exact ⟨A3, n3, c3, by rw [HWAS.out], HV5.out.only hos fun g hg e => (by
    obtain ⟨cs, h9⟩ := HV5.out.boxOf hg
    exact (h9.off HR5.out (by decide)) e), HO5.out.setRow' (.inr HRB.out) _⟩
theorem rlru_in0 (h : OwnInts 3 w base lv L) (hz : base ≤ w.heap.size) (hl : L.length ≤ 64) (hb : b ∈ L) :
    Calls Tryz.prog 220 #[lv, .int .i64 cap, .agg #[.int .i64 0, .int .i64 b]] w (DoPost base (b :: L.filter (· != b)) 0 false true w) := by
  have HBI := Lib.hid hb
  clear hb
  obtain ⟨A, c, rfl, hc1, hc2⟩ := h.shape
  have HL := Lib.hid h
  have HZ := Lib.hid hz
  have HA1 := Lib.hid (Box.fresh w 255 #[.int .i64 0, .int .i64 b])
  have ho1 : Only Non w (w.alloc (.cells #[.int .i64 0, .int .i64 b] 255)) := (Only.refl Non w).alloc _
  have HO1 := Lib.hid ho1
  clear h hz ho1
  go_enter Tryz.func220, Tryz.ntmps220
  go_upto_region 1 with fail
  change Code.wp _ _ _ _ ((w.alloc (.cells #[.int .i64 0, .int .i64 b] 255)).alloc (.cells (dwC (.slice none 0 0) 0 false false 0) 252))
  have hsz : (w.alloc (.cells #[.int .i64 0, .int .i64 b] 255)).heap.size = w.heap.size + 1 := World.size_alloc ..
  generalize w.alloc (.cells #[.int .i64 0, .int .i64 b] 255) = W0 at *
  obtain ⟨ab, hab⟩ : ∃ ab, ab = w.heap.size := ⟨_, rfl⟩
  have HAB := Lib.hid (show w.heap.size ≤ ab from Nat.le_of_eq hab.symm)
  rw [← hab] at HA1 hsz ⊢
  clear hab
  have HR1 := Lib.hid (Box.fresh W0 252 (dwC (.slice none 0 0) 0 false false 0))
  have ho1 : Only Non W0 (W0.alloc (.cells (dwC (.slice none 0 0) 0 false false 0) 252)) := (Only.refl Non W0).alloc _
  have HA2 := Lib.hid (ho1.box HA1.out id)
  have HO2 := Lib.hid (HO1.out.trans ho1)
  have HRB := Lib.hid (show w.heap.size ≤ W0.heap.size from HO1.out.size)
  clear ho1 HA1 HO1
  generalize W0.alloc (.cells (dwC (.slice none 0 0) 0 false false 0) 252) = W1 at *
  rw [hsz] at HR1 HRB
  clear hsz
  generalize ab + 1 = rb at *
  have HLA := Lib.hid (HL.out.only HO2.out fun _ _ => id)
  have HHS := Lib.hid (has_ints A c _ L b W1 HLA.out.at (Nat.le_trans hc1 hc2))
  have y0 : W1.cell? ⟨ab, 0, none⟩ = some (.int .i64 0) := HA2.out.cellAt rfl
  have y1 : W1.cell? ⟨ab, 1, none⟩ = some (.int .i64 b) := HA2.out.cellAt rfl
  generalize hwas : decide (b ∈ L) = was at *
  have HWAS := Lib.hid hwas
  clear hwas
  go_upto_region 2 with (go_at_call 43; refine HHS.out.mono ?_; rintro e W ⟨rfl, rfl⟩)
  change Code.wp _ _ _ _ (W1.alloc (.cells (dwC (.slice A L.length c) 0 false was 0) 252))
  have HE1 := Lib.hid (Box.fresh W1 252 (dwC (.slice A L.length c) 0 false was 0))
  have ho1 : Only Non W1 (W1.alloc (.cells (dwC (.slice A L.length c) 0 false was 0) 252)) := (Only.refl Non W1).alloc _
  have HR2 := Lib.hid (ho1.box HR1.out id)
  have HA3 := Lib.hid (ho1.box HA2.out id)
  have HO3 := Lib.hid (HO2.out.trans ho1)
  have HEB := Lib.hid (show w.heap.size ≤ W1.heap.size ∧ rb < W1.heap.size from ⟨HO2.out.size, HR1.out.lt⟩)
  clear ho1 HHS HR1 HA2 HO2 HLA y0 y1
  generalize W1.alloc (.cells (dwC (.slice A L.length c) 0 false was 0) 252) = W2 at *
  generalize W1.heap.size = eb at *
  have HWO := Lib.hid (without_any b W2 (HL.out.only HO3.out fun _ _ => id) (by omega))
  have y0 : W2.cell? ⟨ab, 0, none⟩ = some (.int .i64 0) := HA3.out.cellAt rfl
  have y1 : W2.cell? ⟨ab, 1, none⟩ = some (.int .i64 b) := HA3.out.cellAt rfl
  have HLL := Lib.hid hl
  clear hl
  go_upto_region 3 with (go_at_call 265; refine HWO.out.mono ?_; rintro e W3 ⟨v3, rfl, ho3, hn3⟩; obtain ⟨A3, c3, e3, hc31, hc32⟩ := ho3.shape; generalize hn3e : (L.filter (· != b)).length = n3 at *; subst e3; have HV3 := Lib.hid (ho3.low (base' := base) (Nat.le_trans HZ.out HO3.out.size)); have HN3 := Lib.hid hn3; clear ho3 hn3)
  have HE3 := Lib.hid (HN3.out.box HE1.out id)
  have HR3 := Lib.hid (HN3.out.box HR2.out id)
  have HA4 := Lib.hid (HN3.out.box HA3.out id)
  have HO4 := Lib.hid (HO3.out.trans HN3.out)
  clear HE1 HR2 HA3 HO3 HN3 y0 y1 HWO
  have y0 : W3.cell? ⟨ab, 0, none⟩ = some (.int .i64 0) := HA4.out.cellAt rfl
  have y1 : W3.cell? ⟨ab, 1, none⟩ = some (.int .i64 b) := HA4.out.cellAt rfl
  obtain rfl : was = true := by rw [← HWAS.out]; exact decide_eq_true HBI.out
  have z0 : W3.cell? ⟨eb, 0, none⟩ = some (.slice A L.length c) := HE3.out.cellAt rfl
  have z3 : W3.cell? ⟨eb, 3, none⟩ = some (.bool true) := HE3.out.cellAt rfl
  have HAH := Lib.hid (ahead_any b W3 HV3.out (by have := HLL.out; have : (L.filter (· != b)).length ≤ L.length := List.length_filter_le ..; omega))
  go_upto_region 8 with (go_at_call 266; refine HAH.out.mono ?_; rintro e W4 ⟨v4, rfl, ho4, hn4⟩; obtain ⟨g4, c4, e4, hc41, hc42⟩ := ho4.some_ (by simp); generalize hn4e : (b :: L.filter (· != b)).length = n4 at *; subst e4; have HV4 := Lib.hid (ho4.low (base' := base) (by have := HZ.out; have := HO4.out.size; omega)); have HE4 := Lib.hid (hn4.box HE3.out id); have HR4 := Lib.hid (hn4.box HR3.out id); have HO4b := Lib.hid (HO4.out.trans hn4); have w0 := HE4.out.cellAt (i := 0) rfl; have w1 := HE4.out.free 0; clear ho4 hn4)
  have ho5 : Only (Just eb) W4 (W4.setCell ⟨eb, 0, none⟩ (.slice (some ⟨g4, 0, none⟩) n4 c4)) := (Only.refl (Just eb) W4).setCell (p := ⟨eb, 0, none⟩) (.inl (show Just eb eb from rfl)) _
  have HE5 := Lib.hid (show Box _ eb 252 (dwC (.slice (some ⟨g4, 0, none⟩) n4 c4) 0 false true 0) from HE4.out.store 0 (.slice (some ⟨g4, 0, none⟩) n4 c4))
  have HR5 := Lib.hid (ho5.box HR4.out (fun e => by have h9 : rb = eb := e; have := HEB.out; omega))
  have HO5 := Lib.hid (HO4b.out.setCell (p := ⟨eb, 0, none⟩) (.inr HEB.out.1) (.slice (some ⟨g4, 0, none⟩) n4 c4))
  have HV5 := Lib.hid (HV4.out.only ho5 fun g hg e => by
    obtain ⟨cs, h9⟩ := HV4.out.boxOf hg
    exact (h9.off HE4.out (by decide)) e)
  change Code.wp _ _ _ _ (W4.setCell ⟨eb, 0, none⟩ (.slice (some ⟨g4, 0, none⟩) n4 c4))
  clear z0 z3 ho5 HE3 HR3 HO4 HV3 y0 y1 HA4 HE4 HR4 HV4 HO4b w0 w1 HAH
  generalize W4.setCell ⟨eb, 0, none⟩ (.slice (some ⟨g4, 0, none⟩) n4 c4) = W5 at *
  go_wp2_with (first | (refine wpList_load_row rfl 252 _ rfl eb rfl 252 (dwC (.slice (some ⟨g4, 0, none⟩) n4 c4) 0 false true 0) (0, 0) _ HE5.out Tryz.underlying252 rfl (by kernel_rfl) ?_) | (refine wpList_store_row rfl 252 _ _ rfl rb (dwC (.slice (some ⟨g4, 0, none⟩) n4 c4) 0 false true 0) rfl rfl 252 _ HR5.out (by kernel_rfl) rfl (dwC_one _ _ _ _ _ _ _) ?_))
  (try simp only [Exit.inBlock, Exit.then])
  refine bodyPost_ret (results_cell_row rfl _ _ rb _ (dwC (.slice (some ⟨g4, 0, none⟩) n4 c4) 0 false true 0) (0, 0) _ rfl (HR5.out.setRow' _) Tryz.underlying252 rfl (by kernel_rfl)) rfl ?_
  have hos : Only (Just rb) W5 (W5.setRow rb (dwC (.slice (some ⟨g4, 0, none⟩) n4 c4) 0 false true 0)) := (Only.refl (Just rb) W5).setRow' (.inl rfl) _
  exact ⟨_, _, _, by first | rfl | rw [HWAS.out], HV5.out.only hos fun g hg e => (by
    obtain ⟨cs, h9⟩ := HV5.out.boxOf hg
    exact (h9.off HR5.out (by decide)) e), HO5.out.setRow' (.inr HRB.out) _⟩
theorem rlru_in1 (h : OwnInts 3 w base lv L) (hz : base ≤ w.heap.size) (hl : L.length ≤ 64) (hb : b ∈ L) :
    Calls Tryz.prog 220 #[lv, .int .i64 cap, .agg #[.int .i64 1, .int .i64 b]] w (DoPost base (b :: L.filter (· != b)) 0 false true w) := by
  have HBI := Lib.hid hb
  clear hb
  obtain ⟨A, c, rfl, hc1, hc2⟩ := h.shape
  have HL := Lib.hid h
  have HZ := Lib.hid hz
  have HA1 := Lib.hid (Box.fresh w 255 #[.int .i64 1, .int .i64 b])
  have ho1 : Only Non w (w.alloc (.cells #[.int .i64 1, .int .i64 b] 255)) := (Only.refl Non w).alloc _
  have HO1 := Lib.hid ho1
  clear h hz ho1
  go_enter Tryz.func220, Tryz.ntmps220
  go_upto_region 1 with fail
  change Code.wp _ _ _ _ ((w.alloc (.cells #[.int .i64 1, .int .i64 b] 255)).alloc (.cells (dwC (.slice none 0 0) 0 false false 0) 252))
  have hsz : (w.alloc (.cells #[.int .i64 1, .int .i64 b] 255)).heap.size = w.heap.size + 1 := World.size_alloc ..
  generalize w.alloc (.cells #[.int .i64 1, .int .i64 b] 255) = W0 at *
  obtain ⟨ab, hab⟩ : ∃ ab, ab = w.heap.size := ⟨_, rfl⟩
  have HAB := Lib.hid (show w.heap.size ≤ ab from Nat.le_of_eq hab.symm)
  rw [← hab] at HA1 hsz ⊢
  clear hab
  have HR1 := Lib.hid (Box.fresh W0 252 (dwC (.slice none 0 0) 0 false false 0))
  have ho1 : Only Non W0 (W0.alloc (.cells (dwC (.slice none 0 0) 0 false false 0) 252)) := (Only.refl Non W0).alloc _
  have HA2 := Lib.hid (ho1.box HA1.out id)
  have HO2 := Lib.hid (HO1.out.trans ho1)
  have HRB := Lib.hid (show w.heap.size ≤ W0.heap.size from HO1.out.size)
  clear ho1 HA1 HO1
  generalize W0.alloc (.cells (dwC (.slice none 0 0) 0 false false 0) 252) = W1 at *
  rw [hsz] at HR1 HRB
  clear hsz
  generalize ab + 1 = rb at *
  have HLA := Lib.hid (HL.out.only HO2.out fun _ _ => id)
  have HHS := Lib.hid (has_ints A c _ L b W1 HLA.out.at (Nat.le_trans hc1 hc2))
  have y0 : W1.cell? ⟨ab, 0, none⟩ = some (.int .i64 1) := HA2.out.cellAt rfl
  have y1 : W1.cell? ⟨ab, 1, none⟩ = some (.int .i64 b) := HA2.out.cellAt rfl
  generalize hwas : decide (b ∈ L) = was at *
  have HWAS := Lib.hid hwas
  clear hwas
  go_upto_region 2 with (go_at_call 43; refine HHS.out.mono ?_; rintro e W ⟨rfl, rfl⟩)
  change Code.wp _ _ _ _ (W1.alloc (.cells (dwC (.slice A L.length c) 0 false was 0) 252))
  have HE1 := Lib.hid (Box.fresh W1 252 (dwC (.slice A L.length c) 0 false was 0))
  have ho1 : Only Non W1 (W1.alloc (.cells (dwC (.slice A L.length c) 0 false was 0) 252)) := (Only.refl Non W1).alloc _
  have HR2 := Lib.hid (ho1.box HR1.out id)
  have HA3 := Lib.hid (ho1.box HA2.out id)
  have HO3 := Lib.hid (HO2.out.trans ho1)
  have HEB := Lib.hid (show w.heap.size ≤ W1.heap.size ∧ rb < W1.heap.size from ⟨HO2.out.size, HR1.out.lt⟩)
  clear ho1 HHS HR1 HA2 HO2 HLA y0 y1
  generalize W1.alloc (.cells (dwC (.slice A L.length c) 0 false was 0) 252) = W2 at *
  generalize W1.heap.size = eb at *
  have HWO := Lib.hid (without_any b W2 (HL.out.only HO3.out fun _ _ => id) (by omega))
  have y0 : W2.cell? ⟨ab, 0, none⟩ = some (.int .i64 1) := HA3.out.cellAt rfl
  have y1 : W2.cell? ⟨ab, 1, none⟩ = some (.int .i64 b) := HA3.out.cellAt rfl
  have HLL := Lib.hid hl
  clear hl
  go_upto_region 3 with (go_at_call 265; refine HWO.out.mono ?_; rintro e W3 ⟨v3, rfl, ho3, hn3⟩; obtain ⟨A3, c3, e3, hc31, hc32⟩ := ho3.shape; generalize hn3e : (L.filter (· != b)).length = n3 at *; subst e3; have HV3 := Lib.hid (ho3.low (base' := base) (Nat.le_trans HZ.out HO3.out.size)); have HN3 := Lib.hid hn3; clear ho3 hn3)
  have HE3 := Lib.hid (HN3.out.box HE1.out id)
  have HR3 := Lib.hid (HN3.out.box HR2.out id)
  have HA4 := Lib.hid (HN3.out.box HA3.out id)
  have HO4 := Lib.hid (HO3.out.trans HN3.out)
  clear HE1 HR2 HA3 HO3 HN3 y0 y1 HWO
  have y0 : W3.cell? ⟨ab, 0, none⟩ = some (.int .i64 1) := HA4.out.cellAt rfl
  have y1 : W3.cell? ⟨ab, 1, none⟩ = some (.int .i64 b) := HA4.out.cellAt rfl
  obtain rfl : was = true := by rw [← HWAS.out]; exact decide_eq_true HBI.out
  have z0 : W3.cell? ⟨eb, 0, none⟩ = some (.slice A L.length c) := HE3.out.cellAt rfl
  have z3 : W3.cell? ⟨eb, 3, none⟩ = some (.bool true) := HE3.out.cellAt rfl
  have HAH := Lib.hid (ahead_any b W3 HV3.out (by have := HLL.out; have : (L.filter (· != b)).length ≤ L.length := List.length_filter_le ..; omega))
  go_upto_region 8 with (go_at_call 266; refine HAH.out.mono ?_; rintro e W4 ⟨v4, rfl, ho4, hn4⟩; obtain ⟨g4, c4, e4, hc41, hc42⟩ := ho4.some_ (by simp); generalize hn4e : (b :: L.filter (· != b)).length = n4 at *; subst e4; have HV4 := Lib.hid (ho4.low (base' := base) (by have := HZ.out; have := HO4.out.size; omega)); have HE4 := Lib.hid (hn4.box HE3.out id); have HR4 := Lib.hid (hn4.box HR3.out id); have HO4b := Lib.hid (HO4.out.trans hn4); have w0 := HE4.out.cellAt (i := 0) rfl; have w1 := HE4.out.free 0; clear ho4 hn4)
  have ho5 : Only (Just eb) W4 (W4.setCell ⟨eb, 0, none⟩ (.slice (some ⟨g4, 0, none⟩) n4 c4)) := (Only.refl (Just eb) W4).setCell (p := ⟨eb, 0, none⟩) (.inl (show Just eb eb from rfl)) _
  have HE5 := Lib.hid (show Box _ eb 252 (dwC (.slice (some ⟨g4, 0, none⟩) n4 c4) 0 false true 0) from HE4.out.store 0 (.slice (some ⟨g4, 0, none⟩) n4 c4))
  have HR5 := Lib.hid (ho5.box HR4.out (fun e => by have h9 : rb = eb := e; have := HEB.out; omega))
  have HO5 := Lib.hid (HO4b.out.setCell (p := ⟨eb, 0, none⟩) (.inr HEB.out.1) (.slice (some ⟨g4, 0, none⟩) n4 c4))
  have HV5 := Lib.hid (HV4.out.only ho5 fun g hg e => by
    obtain ⟨cs, h9⟩ := HV4.out.boxOf hg
    exact (h9.off HE4.out (by decide)) e)
  change Code.wp _ _ _ _ (W4.setCell ⟨eb, 0, none⟩ (.slice (some ⟨g4, 0, none⟩) n4 c4))
  clear z0 z3 ho5 HE3 HR3 HO4 HV3 y0 y1 HA4 HE4 HR4 HV4 HO4b w0 w1 HAH
  generalize W4.setCell ⟨eb, 0, none⟩ (.slice (some ⟨g4, 0, none⟩) n4 c4) = W5 at *
  go_wp2_with (first | (refine wpList_load_row rfl 252 _ rfl eb rfl 252 (dwC (.slice (some ⟨g4, 0, none⟩) n4 c4) 0 false true 0) (0, 0) _ HE5.out Tryz.underlying252 rfl (by kernel_rfl) ?_) | (refine wpList_store_row rfl 252 _ _ rfl rb (dwC (.slice (some ⟨g4, 0, none⟩) n4 c4) 0 false true 0) rfl rfl 252 _ HR5.out (by kernel_rfl) rfl (dwC_one _ _ _ _ _ _ _) ?_))
  (try simp only [Exit.inBlock, Exit.then])
  refine bodyPost_ret (results_cell_row rfl _ _ rb _ (dwC (.slice (some ⟨g4, 0, none⟩) n4 c4) 0 false true 0) (0, 0) _ rfl (HR5.out.setRow' _) Tryz.underlying252 rfl (by kernel_rfl)) rfl ?_
  have hos : Only (Just rb) W5 (W5.setRow rb (dwC (.slice (some ⟨g4, 0, none⟩) n4 c4) 0 false true 0)) := (Only.refl (Just rb) W5).setRow' (.inl rfl) _
  exact ⟨_, _, _, by first | rfl | rw [HWAS.out], HV5.out.only hos fun g hg e => (by
    obtain ⟨cs, h9⟩ := HV5.out.boxOf hg
    exact (h9.off HR5.out (by decide)) e), HO5.out.setRow' (.inr HRB.out) _⟩
theorem rlru_no (h : OwnInts 3 w base lv L) (hz : base ≤ w.heap.size) (hl : L.length ≤ 64) (hb : b ∉ L) :
    Calls Tryz.prog 220 #[lv, .int .i64 cap, .agg #[.int .i64 0, .int .i64 b]] w (DoPost base L 0 false false w) := by
  have HBI := Lib.hid hb
  clear hb
  obtain ⟨A, c, rfl, hc1, hc2⟩ := h.shape
  have HL := Lib.hid h
  have HZ := Lib.hid hz
  have HA1 := Lib.hid (Box.fresh w 255 #[.int .i64 0, .int .i64 b])
  have ho1 : Only Non w (w.alloc (.cells #[.int .i64 0, .int .i64 b] 255)) := (Only.refl Non w).alloc _
  have HO1 := Lib.hid ho1
  clear h hz ho1
  go_enter Tryz.func220, Tryz.ntmps220
  go_upto_region 1 with fail
  change Code.wp _ _ _ _ ((w.alloc (.cells #[.int .i64 0, .int .i64 b] 255)).alloc (.cells (dwC (.slice none 0 0) 0 false false 0) 252))
  have hsz : (w.alloc (.cells #[.int .i64 0, .int .i64 b] 255)).heap.size = w.heap.size + 1 := World.size_alloc ..
  generalize w.alloc (.cells #[.int .i64 0, .int .i64 b] 255) = W0 at *
  obtain ⟨ab, hab⟩ : ∃ ab, ab = w.heap.size := ⟨_, rfl⟩
  have HAB := Lib.hid (show w.heap.size ≤ ab from Nat.le_of_eq hab.symm)
  rw [← hab] at HA1 hsz ⊢
  clear hab
  have HR1 := Lib.hid (Box.fresh W0 252 (dwC (.slice none 0 0) 0 false false 0))
  have ho1 : Only Non W0 (W0.alloc (.cells (dwC (.slice none 0 0) 0 false false 0) 252)) := (Only.refl Non W0).alloc _
  have HA2 := Lib.hid (ho1.box HA1.out id)
  have HO2 := Lib.hid (HO1.out.trans ho1)
  have HRB := Lib.hid (show w.heap.size ≤ W0.heap.size from HO1.out.size)
  clear ho1 HA1 HO1
  generalize W0.alloc (.cells (dwC (.slice none 0 0) 0 false false 0) 252) = W1 at *
  rw [hsz] at HR1 HRB
  clear hsz
  generalize ab + 1 = rb at *
  have HLA := Lib.hid (HL.out.only HO2.out fun _ _ => id)
  have HHS := Lib.hid (has_ints A c _ L b W1 HLA.out.at (Nat.le_trans hc1 hc2))
  have y0 : W1.cell? ⟨ab, 0, none⟩ = some (.int .i64 0) := HA2.out.cellAt rfl
  have y1 : W1.cell? ⟨ab, 1, none⟩ = some (.int .i64 b) := HA2.out.cellAt rfl
  generalize hwas : decide (b ∈ L) = was at *
  have HWAS := Lib.hid hwas
  clear hwas
  go_upto_region 2 with (go_at_call 43; refine HHS.out.mono ?_; rintro e W ⟨rfl, rfl⟩)
  change Code.wp _ _ _ _ (W1.alloc (.cells (dwC (.slice A L.length c) 0 false was 0) 252))
  have HE1 := Lib.hid (Box.fresh W1 252 (dwC (.slice A L.length c) 0 false was 0))
  have ho1 : Only Non W1 (W1.alloc (.cells (dwC (.slice A L.length c) 0 false was 0) 252)) := (Only.refl Non W1).alloc _
  have HR2 := Lib.hid (ho1.box HR1.out id)
  have HA3 := Lib.hid (ho1.box HA2.out id)
  have HO3 := Lib.hid (HO2.out.trans ho1)
  have HEB := Lib.hid (show w.heap.size ≤ W1.heap.size ∧ rb < W1.heap.size from ⟨HO2.out.size, HR1.out.lt⟩)
  clear ho1 HHS HR1 HA2 HO2 HLA y0 y1
  generalize W1.alloc (.cells (dwC (.slice A L.length c) 0 false was 0) 252) = W2 at *
  generalize W1.heap.size = eb at *
  have HWO := Lib.hid (without_any b W2 (HL.out.only HO3.out fun _ _ => id) (by omega))
  have y0 : W2.cell? ⟨ab, 0, none⟩ = some (.int .i64 0) := HA3.out.cellAt rfl
  have y1 : W2.cell? ⟨ab, 1, none⟩ = some (.int .i64 b) := HA3.out.cellAt rfl
  have HLL := Lib.hid hl
  clear hl
  go_upto_region 3 with (go_at_call 265; refine HWO.out.mono ?_; rintro e W3 ⟨v3, rfl, ho3, hn3⟩; obtain ⟨A3, c3, e3, hc31, hc32⟩ := ho3.shape; generalize hn3e : (L.filter (· != b)).length = n3 at *; subst e3; have HV3 := Lib.hid (ho3.low (base' := base) (Nat.le_trans HZ.out HO3.out.size)); have HN3 := Lib.hid hn3; clear ho3 hn3)
  have HE3 := Lib.hid (HN3.out.box HE1.out id)
  have HR3 := Lib.hid (HN3.out.box HR2.out id)
  have HA4 := Lib.hid (HN3.out.box HA3.out id)
  have HO4 := Lib.hid (HO3.out.trans HN3.out)
  clear HE1 HR2 HA3 HO3 HN3 y0 y1 HWO
  have y0 : W3.cell? ⟨ab, 0, none⟩ = some (.int .i64 0) := HA4.out.cellAt rfl
  have y1 : W3.cell? ⟨ab, 1, none⟩ = some (.int .i64 b) := HA4.out.cellAt rfl
  obtain rfl : was = false := by rw [← HWAS.out]; exact decide_eq_false HBI.out
  have z3 : W3.cell? ⟨eb, 3, none⟩ = some (.bool false) := HE3.out.cellAt rfl
  have HV5 := Lib.hid (HL.out.only HO4.out fun _ _ => id)
  have HR5 := Lib.hid HR3.out
  have HO5 := Lib.hid HO4.out
  go_wp2_with (first | (refine wpList_load_row rfl 252 _ rfl eb rfl 252 (dwC (.slice A L.length c) 0 false false 0) (0, 0) _ HE3.out Tryz.underlying252 rfl (by kernel_rfl) ?_) | (refine wpList_store_row rfl 252 _ _ rfl rb (dwC (.slice A L.length c) 0 false false 0) rfl rfl 252 _ HR5.out (by kernel_rfl) rfl (dwC_one _ _ _ _ _ _ _) ?_))
  (try simp only [Exit.inBlock, Exit.then])
  refine bodyPost_ret (results_cell_row rfl _ _ rb _ (dwC (.slice A L.length c) 0 false false 0) (0, 0) _ rfl (HR5.out.setRow' _) Tryz.underlying252 rfl (by kernel_rfl)) rfl ?_
  have hos : Only (Just rb) W3 (W3.setRow rb (dwC (.slice A L.length c) 0 false false 0)) := (Only.refl (Just rb) W3).setRow' (.inl rfl) _
  exact ⟨_, _, _, by first | rfl | rw [HWAS.out], HV5.out.only hos fun g hg e => (by
    obtain ⟨cs, h9⟩ := HV5.out.boxOf hg
    exact (h9.off HR5.out (by decide)) e), HO5.out.setRow' (.inr HRB.out) _⟩
theorem rlru_add {n : Nat} (h : OwnInts 3 w base lv L) (hz : base ≤ w.heap.size) (hl : L.length ≤ 16) (hlc : L.length ≤ cap) (hc16 : cap ≤ 16) (hn : n < 64) (hnd : L.Nodup) (h1 : 1 ≤ cap) (hb : (n : Int) ∉ L) :
    Calls Tryz.prog 220 #[lv, .int .i64 cap, .agg #[.int .i64 1, .int .i64 n]] w (DoPost base (lruAdd cap L n).1 (lruAdd cap L n).2.1 (lruAdd cap L n).2.2 false w) := by
  have HBI := Lib.hid hb
  have hn63 : (n : Int) ≤ 63 := by omega
  have HND := Lib.hid hnd
  have HLC := Lib.hid (show L.length ≤ cap ∧ 1 ≤ cap from ⟨hlc, h1⟩)
  have hl64 : L.length ≤ 64 := by omega
  have hLlen : (L.length : Int) ≤ 16 := by omega
  have hcap : (cap : Int) ≤ 16 := by omega
  obtain ⟨b, hbn⟩ : ∃ b : Int, b = n := ⟨_, rfl⟩
  have hb0 : 0 ≤ b := by omega
  have hb63 : b ≤ 63 := by omega
  rw [← hbn] at HBI ⊢
  clear hb hnd hlc h1 hn63 hbn hn hl
  have hl := hl64
  clear hl64
  obtain ⟨A, c, rfl, hc1, hc2⟩ := h.shape
  have HL := Lib.hid h
  have HZ := Lib.hid hz
  have HA1 := Lib.hid (Box.fresh w 255 #[.int .i64 1, .int .i64 b])
  have ho1 : Only Non w (w.alloc (.cells #[.int .i64 1, .int .i64 b] 255)) := (Only.refl Non w).alloc _
  have HO1 := Lib.hid ho1
  clear h hz ho1
  go_enter Tryz.func220, Tryz.ntmps220
  go_upto_region 1 with fail
  change Code.wp _ _ _ _ ((w.alloc (.cells #[.int .i64 1, .int .i64 b] 255)).alloc (.cells (dwC (.slice none 0 0) 0 false false 0) 252))
  have hsz : (w.alloc (.cells #[.int .i64 1, .int .i64 b] 255)).heap.size = w.heap.size + 1 := World.size_alloc ..
  generalize w.alloc (.cells #[.int .i64 1, .int .i64 b] 255) = W0 at *
  obtain ⟨ab, hab⟩ : ∃ ab, ab = w.heap.size := ⟨_, rfl⟩
  have HAB := Lib.hid (show w.heap.size ≤ ab from Nat.le_of_eq hab.symm)
  rw [← hab] at HA1 hsz ⊢
  clear hab
  have HR1 := Lib.hid (Box.fresh W0 252 (dwC (.slice none 0 0) 0 false false 0))
  have ho1 : Only Non W0 (W0.alloc (.cells (dwC (.slice none 0 0) 0 false false 0) 252)) := (Only.refl Non W0).alloc _
  have HA2 := Lib.hid (ho1.box HA1.out id)
  have HO2 := Lib.hid (HO1.out.trans ho1)
  have HRB := Lib.hid (show w.heap.size ≤ W0.heap.size from HO1.out.size)
  clear ho1 HA1 HO1
  generalize W0.alloc (.cells (dwC (.slice none 0 0) 0 false false 0) 252) = W1 at *
  rw [hsz] at HR1 HRB
  clear hsz
  generalize ab + 1 = rb at *
  have HLA := Lib.hid (HL.out.only HO2.out fun _ _ => id)
  have HHS := Lib.hid (has_ints A c _ L b W1 HLA.out.at (Nat.le_trans hc1 hc2))
  have y0 : W1.cell? ⟨ab, 0, none⟩ = some (.int .i64 1) := HA2.out.cellAt rfl
  have y1 : W1.cell? ⟨ab, 1, none⟩ = some (.int .i64 b) := HA2.out.cellAt rfl
  generalize hwas : decide (b ∈ L) = was at *
  have HWAS := Lib.hid hwas
  clear hwas
  go_upto_region 2 with (go_at_call 43; refine HHS.out.mono ?_; rintro e W ⟨rfl, rfl⟩)
  change Code.wp _ _ _ _ (W1.alloc (.cells (dwC (.slice A L.length c) 0 false was 0) 252))
  have HE1 := Lib.hid (Box.fresh W1 252 (dwC (.slice A L.length c) 0 false was 0))
  have ho1 : Only Non W1 (W1.alloc (.cells (dwC (.slice A L.length c) 0 false was 0) 252)) := (Only.refl Non W1).alloc _
  have HR2 := Lib.hid (ho1.box HR1.out id)
  have HA3 := Lib.hid (ho1.box HA2.out id)
  have HO3 := Lib.hid (HO2.out.trans ho1)
  have HEB := Lib.hid (show w.heap.size ≤ W1.heap.size ∧ rb < W1.heap.size from ⟨HO2.out.size, HR1.out.lt⟩)
  clear ho1 HHS HR1 HA2 HO2 HLA y0 y1
  generalize W1.alloc (.cells (dwC (.slice A L.length c) 0 false was 0) 252) = W2 at *
  generalize W1.heap.size = eb at *
  have HWO := Lib.hid (without_any b W2 (HL.out.only HO3.out fun _ _ => id) (by omega))
  have y0 : W2.cell? ⟨ab, 0, none⟩ = some (.int .i64 1) := HA3.out.cellAt rfl
  have y1 : W2.cell? ⟨ab, 1, none⟩ = some (.int .i64 b) := HA3.out.cellAt rfl
  have HLL := Lib.hid hl
  clear hl
  go_upto_region 3 with (go_at_call 265; refine HWO.out.mono ?_; rintro e W3 ⟨v3, rfl, ho3, hn3⟩; obtain ⟨A3, c3, e3, hc31, hc32⟩ := ho3.shape; generalize hn3e : (L.filter (· != b)).length = n3 at *; subst e3; have HV3 := Lib.hid (ho3.low (base' := base) (Nat.le_trans HZ.out HO3.out.size)); have HN3 := Lib.hid hn3; clear ho3 hn3)
  have HE3 := Lib.hid (HN3.out.box HE1.out id)
  have HR3 := Lib.hid (HN3.out.box HR2.out id)
  have HA4 := Lib.hid (HN3.out.box HA3.out id)
  have HO4 := Lib.hid (HO3.out.trans HN3.out)
  clear HE1 HR2 HA3 HO3 HN3 y0 y1 HWO
  have y0 : W3.cell? ⟨ab, 0, none⟩ = some (.int .i64 1) := HA4.out.cellAt rfl
  have y1 : W3.cell? ⟨ab, 1, none⟩ = some (.int .i64 b) := HA4.out.cellAt rfl
  obtain rfl : was = false := by rw [← HWAS.out]; exact decide_eq_false HBI.out
  have z3 : W3.cell? ⟨eb, 3, none⟩ = some (.bool false) := HE3.out.cellAt rfl
  have HAH := Lib.hid (ahead_any b W3 (HL.out.only HO4.out fun _ _ => id) (by have := HLL.out; omega))
  have HNG := Lib.hid (show (b :: L).length = L.length + 1 from List.length_cons)
  go_upto_region 15 with (go_at_call 266; refine HAH.out.mono ?_; rintro e W4 ⟨v4, rfl, ho4, hn4⟩; obtain ⟨g4, c4, e4, hc41, hc42⟩ := ho4.some_ (by simp); rw [HNG.out] at e4 hc41; subst e4; have HV4 := Lib.hid (ho4.low (base' := base) (by have := HZ.out; have := HO4.out.size; omega)); have HE4 := Lib.hid (hn4.box HE3.out id); have HR4 := Lib.hid (hn4.box HR3.out id); have HO4b := Lib.hid (HO4.out.trans hn4); have w0 := HE4.out.cellAt (i := 0) rfl; have w1 := HE4.out.free 0; clear ho4 hn4)
  clear HO4
  have HO4 := Lib.hid HO4b.out
  have ho5 : Only (Just eb) W4 (W4.setCell ⟨eb, 0, none⟩ (.slice (some ⟨g4, 0, none⟩) (L.length + 1) c4)) := (Only.refl (Just eb) W4).setCell (p := ⟨eb, 0, none⟩) (.inl (show Just eb eb from rfl)) _
  have HE5 := Lib.hid (show Box _ eb 252 (dwC (.slice (some ⟨g4, 0, none⟩) (L.length + 1) c4) 0 false false 0) from HE4.out.store 0 (.slice (some ⟨g4, 0, none⟩) (L.length + 1) c4))
  have HR5 := Lib.hid (ho5.box HR4.out (fun e => by have h9 : rb = eb := e; have := HEB.out; omega))
  have HO5 := Lib.hid (HO4.out.setCell (p := ⟨eb, 0, none⟩) (.inr HEB.out.1) (.slice (some ⟨g4, 0, none⟩) (L.length + 1) c4))
  have HV5 := Lib.hid (HV4.out.only ho5 fun g hg e => by
    obtain ⟨cs, h9⟩ := HV4.out.boxOf hg
    exact (h9.off HE4.out (by decide)) e)
  change Code.wp _ _ _ _ (W4.setCell ⟨eb, 0, none⟩ (.slice (some ⟨g4, 0, none⟩) (L.length + 1) c4))
  clear ho5 HE4 HR4 HO4 HV4 w0 w1 HO4b z3 HAH HE3 HR3 y0 y1 HA4 HV3
  generalize W4.setCell ⟨eb, 0, none⟩ (.slice (some ⟨g4, 0, none⟩) (L.length + 1) c4) = W5 at *
  have z0 : W5.cell? ⟨eb, 0, none⟩ = some (.slice (some ⟨g4, 0, none⟩) (L.length + 1) c4) := HE5.out.cellAt rfl
  by_cases hgt : cap < L.length + 1
  · have hlc : L.length = cap := by have := HLC.out; omega
    have hne : L ≠ [] := fun e => by rw [e] at hlc; have := HLC.out; simp at hlc; omega
    have HEQ := Lib.hid (show lruAdd cap L b = (b :: L.erase (lst L), lst L, true) by unfold lruAdd; rw [if_neg HBI.out, if_neg (by omega)])
    have HTK := Lib.hid (show (b :: L).take L.length = b :: L.erase (lst L) by
      rw [erase_last HND.out]
      obtain ⟨m, hm⟩ : ∃ m, L.length = m + 1 := ⟨L.length - 1, by have := List.length_pos_iff.2 hne; omega⟩
      rw [hm]; rfl)
    have HLS := Lib.hid (show (b :: L).getD L.length 0 = lst L by
      rw [lst_getD HNG.out, lst_cons, if_neg hne])
    have hat := HV5.out.at
    obtain ⟨g5, o5, e5, hcl⟩ := hat.cellAt (i := L.length) (by rw [HNG.out]; omega)
    injection e5 with e5
    injection e5 with e5 e6
    subst e5 e6
    rw [HLS.out, Nat.zero_add] at hcl
    have hgti : (cap : Int) < (L.length : Int) + 1 := by omega
    have hw0 : IntKind.i64.wrap (L.length : Int) = L.length := by rw [IntKind.wrap_i64]; omega
    have hlt1 : (L.length : Int) < (L.length : Int) + 1 := by omega
    have hcc : (L.length : Int) ≤ c4 := by omega
    have hcc2 : (L.length : Int) + 1 ≤ c4 := by omega
    clear hgt hlc hne hat
    generalize hvv : lst L = vv at *
    have HVV := Lib.hid hvv
    clear hvv
    have a1 : W5.cell? ⟨eb, 1, none⟩ = some (.int .i64 0) := HE5.out.cellAt rfl
    have f1 : W5.frozen? ⟨eb, 1, none⟩ = false := HE5.out.free 1
    go_upto_region 18 with fail
    have ho6 : Only (Just eb) W5 (W5.setCell ⟨eb, 1, none⟩ (.int .i64 vv)) := (Only.refl (Just eb) W5).setCell (p := ⟨eb, 1, none⟩) (.inl (show Just eb eb from rfl)) _
    have HE6 := Lib.hid (show Box _ eb 252 (dwC (.slice (some ⟨g4, 0, none⟩) (L.length + 1) c4) vv false false 0) from HE5.out.store 1 (.int .i64 vv))
    have HR6 := Lib.hid (ho6.box HR5.out (fun e => by have h9 : rb = eb := e; have := HEB.out; omega))
    have HO6 := Lib.hid (HO5.out.setCell (p := ⟨eb, 1, none⟩) (.inr HEB.out.1) (.int .i64 vv))
    have HV6 := Lib.hid (HV5.out.only ho6 fun g hg e => by
      obtain ⟨cs, h9⟩ := HV5.out.boxOf hg
      exact (h9.off HE5.out (by decide)) e)
    change Code.wp _ _ _ _ (W5.setCell ⟨eb, 1, none⟩ (.int .i64 vv))
    clear ho6 HE5 HR5 HO5 HV5 a1 f1 z0 hcl
    generalize W5.setCell ⟨eb, 1, none⟩ (.int .i64 vv) = W6 at *
    have a2 : W6.cell? ⟨eb, 2, none⟩ = some (.bool false) := HE6.out.cellAt rfl
    have f2 : W6.frozen? ⟨eb, 2, none⟩ = false := HE6.out.free 2
    go_upto_region 19 with fail
    have ho7 : Only (Just eb) W6 (W6.setCell ⟨eb, 2, none⟩ (.bool true)) := (Only.refl (Just eb) W6).setCell (p := ⟨eb, 2, none⟩) (.inl (show Just eb eb from rfl)) _
    have HE7 := Lib.hid (show Box _ eb 252 (dwC (.slice (some ⟨g4, 0, none⟩) (L.length + 1) c4) vv true false 0) from HE6.out.store 2 (.bool true))
    have HR7 := Lib.hid (ho7.box HR6.out (fun e => by have h9 : rb = eb := e; have := HEB.out; omega))
    have HO7 := Lib.hid (HO6.out.setCell (p := ⟨eb, 2, none⟩) (.inr HEB.out.1) (.bool true))
    have HV7 := Lib.hid (HV6.out.only ho7 fun g hg e => by
      obtain ⟨cs, h9⟩ := HV6.out.boxOf hg
      exact (h9.off HE6.out (by decide)) e)
    change Code.wp _ _ _ _ (W6.setCell ⟨eb, 2, none⟩ (.bool true))
    clear ho7 HE6 HR6 HO6 HV6 a2 f2
    generalize W6.setCell ⟨eb, 2, none⟩ (.bool true) = W7 at *
    have a0 : W7.cell? ⟨eb, 0, none⟩ = some (.slice (some ⟨g4, 0, none⟩) (L.length + 1) c4) := HE7.out.cellAt rfl
    have f0 : W7.frozen? ⟨eb, 0, none⟩ = false := HE7.out.free 0
    go_upto_region 20 with fail
    have ho8 : Only (Just eb) W7 (W7.setCell ⟨eb, 0, none⟩ (.slice (some ⟨g4, 0, none⟩) L.length c4)) := (Only.refl (Just eb) W7).setCell (p := ⟨eb, 0, none⟩) (.inl (show Just eb eb from rfl)) _
    have HE8 := Lib.hid (show Box _ eb 252 (dwC (.slice (some ⟨g4, 0, none⟩) L.length c4) vv true false 0) from HE7.out.store 0 (.slice (some ⟨g4, 0, none⟩) L.length c4))
    have HR8 := Lib.hid (ho8.box HR7.out (fun e => by have h9 : rb = eb := e; have := HEB.out; omega))
    have HO8 := Lib.hid (HO7.out.setCell (p := ⟨eb, 0, none⟩) (.inr HEB.out.1) (.slice (some ⟨g4, 0, none⟩) L.length c4))
    have HV8 := Lib.hid (HV7.out.only ho8 fun g hg e => by
      obtain ⟨cs, h9⟩ := HV7.out.boxOf hg
      exact (h9.off HE7.out (by decide)) e)
    change Code.wp _ _ _ _ (W7.setCell ⟨eb, 0, none⟩ (.slice (some ⟨g4, 0, none⟩) L.length c4))
    clear ho8 HE7 HR7 HO7 a0 f0
    generalize W7.setCell ⟨eb, 0, none⟩ (.slice (some ⟨g4, 0, none⟩) L.length c4) = W8 at *
    have HV9 := Lib.hid (show OwnInts 3 W8 base (.slice (some ⟨g4, 0, none⟩) L.length c4) (b :: L.erase vv) by
      have h2 := HV8.out.take (m := L.length) (by rw [HNG.out]; omega)
      rw [HTK.out] at h2
      exact h2)
    have HR9 := Lib.hid HR8.out
    have HO9 := Lib.hid HO8.out
    go_wp2_with (first | (refine wpList_load_row rfl 252 _ rfl eb rfl 252 (dwC (.slice (some ⟨g4, 0, none⟩) L.length c4) vv true false 0) (0, 0) _ HE8.out Tryz.underlying252 rfl (by kernel_rfl) ?_) | (refine wpList_store_row rfl 252 _ _ rfl rb (dwC (.slice (some ⟨g4, 0, none⟩) L.length c4) vv true false 0) rfl rfl 252 _ HR8.out (by kernel_rfl) rfl (dwC_one _ _ _ _ _ _ _) ?_))
    (try simp only [Exit.inBlock, Exit.then])
    refine bodyPost_ret (results_cell_row rfl _ _ rb _ (dwC (.slice (some ⟨g4, 0, none⟩) L.length c4) vv true false 0) (0, 0) _ rfl (HR8.out.setRow' _) Tryz.underlying252 rfl (by kernel_rfl)) rfl ?_
    rw [HEQ.out]
    have hos : Only (Just rb) W8 (W8.setRow rb (dwC (.slice (some ⟨g4, 0, none⟩) L.length c4) vv true false 0)) := (Only.refl (Just rb) W8).setRow' (.inl rfl) _
    exact ⟨_, _, _, by first | rfl | rw [HWAS.out], HV9.out.only hos fun g hg e => (by
      obtain ⟨cs, h9⟩ := HV9.out.boxOf hg
      exact (h9.off HR9.out (by decide)) e), HO9.out.setRow' (.inr HRB.out) _⟩
  · have hlt : L.length < cap := by omega
    have HEQ := Lib.hid (show lruAdd cap L b = (b :: L, 0, false) by unfold lruAdd; rw [if_neg HBI.out, if_pos hlt])
    have hgti : (L.length : Int) + 1 ≤ cap := by omega
    clear hgt hlt
    go_wp2_with (first | (refine wpList_load_row rfl 252 _ rfl eb rfl 252 (dwC (.slice (some ⟨g4, 0, none⟩) (L.length + 1) c4) 0 false false 0) (0, 0) _ HE5.out Tryz.underlying252 rfl (by kernel_rfl) ?_) | (refine wpList_store_row rfl 252 _ _ rfl rb (dwC (.slice (some ⟨g4, 0, none⟩) (L.length + 1) c4) 0 false false 0) rfl rfl 252 _ HR5.out (by kernel_rfl) rfl (dwC_one _ _ _ _ _ _ _) ?_))
    (try simp only [Exit.inBlock, Exit.then])
    refine bodyPost_ret (results_cell_row rfl _ _ rb _ (dwC (.slice (some ⟨g4, 0, none⟩) (L.length + 1) c4) 0 false false 0) (0, 0) _ rfl (HR5.out.setRow' _) Tryz.underlying252 rfl (by kernel_rfl)) rfl ?_
    rw [HEQ.out]
    have hos : Only (Just rb) W5 (W5.setRow rb (dwC (.slice (some ⟨g4, 0, none⟩) (L.length + 1) c4) 0 false false 0)) := (Only.refl (Just rb) W5).setRow' (.inl rfl) _
    exact ⟨_, _, _, by first | rfl | rw [HWAS.out], HV5.out.only hos fun g hg e => (by
      obtain ⟨cs, h9⟩ := HV5.out.boxOf hg
      exact (h9.off HR5.out (by decide)) e), HO5.out.setRow' (.inr HRB.out) _⟩
end
end Go.Proofs.YtodephhlhdbeoaaGreat
