/- Several texts, one behind the other: Pld Ple Cpn Cvl Tga Tgb Tgc Tgd. -/
import Derived.Test.YtodephhlhdbeoaaGreatM18
import Derived.Test.YtodephhlhdbeoaaGreatM24
import Derived.Sort.LotA
import Derived.Test.YtodephhlhdbeoaaGreatM17
import Derived.Laws.OwnMore
namespace Go.Proofs.YtodephhlhdbeoaaGreat
open Go.RowKit Go.ChangeShapes Go.WideShapes Go.Shelf
set_option linter.unusedVariables false
set_option linter.unusedSimpArgs false
theorem frcCmp_neg (l : FrcL) (i k : Nat) : frcCmp l i k < 0 ↔ (l.getD k default).1 * (l.getD i default).2 < (l.getD i default).1 * (l.getD k default).2 := by
  unfold frcCmp cmpZ
  split
  · simp_all
  · split <;> simp_all
theorem cross_trans {a b c d e f : Int} (hb : 0 < b) (hd : 0 < d) (hf : 0 < f) (h1 : c * b < a * d) (h2 : e * d < c * f) : e * b < a * f := by
  have h3 : e * d * b < c * f * b := Int.mul_lt_mul_of_pos_right h2 hb
  have h4 : c * b * f < a * d * f := Int.mul_lt_mul_of_pos_right h1 hf
  have h5 : c * f * b = c * b * f := by rw [Int.mul_assoc, Int.mul_comm f b, ← Int.mul_assoc]
  have h6 : (e * b) * d < (a * f) * d := by
    rw [show e * b * d = e * d * b by rw [Int.mul_assoc, Int.mul_comm b d, ← Int.mul_assoc], show a * f * d = a * d * f by rw [Int.mul_assoc, Int.mul_comm f d, ← Int.mul_assoc]]
    omega
  exact Int.lt_of_mul_lt_mul_right h6 (Int.le_of_lt hd)
theorem cross_ntrans {a b c d e f : Int} (hb : 0 < b) (hd : 0 < d) (hf : 0 < f) (h1 : a * d ≤ c * b) (h2 : c * f ≤ e * d) : a * f ≤ e * b := by
  have h3 : c * f * b ≤ e * d * b := Int.mul_le_mul_of_nonneg_right h2 (Int.le_of_lt hb)
  have h4 : a * d * f ≤ c * b * f := Int.mul_le_mul_of_nonneg_right h1 (Int.le_of_lt hf)
  have h5 : c * f * b = c * b * f := by rw [Int.mul_assoc, Int.mul_comm f b, ← Int.mul_assoc]
  have h6 : (a * f) * d ≤ (e * b) * d := by
    rw [show e * b * d = e * d * b by rw [Int.mul_assoc, Int.mul_comm b d, ← Int.mul_assoc], show a * f * d = a * d * f by rw [Int.mul_assoc, Int.mul_comm f d, ← Int.mul_assoc]]
    omega
  exact Int.le_of_mul_le_mul_right h6 hd
theorem frc_swo {l : FrcL} {m : Nat} (hm : l.length = m + 1) (hok : FrcsOk l) : Sort.SWO (ltOf fun (i k : Fin (m + 1)) => frcCmp l i.val k.val) where
  irrefl := fun x => by
    unfold ltOf
    rw [decide_eq_false]
    rw [frcCmp_neg]
    omega
  trans := fun x y z h1 h2 => by
    unfold ltOf at *
    rw [decide_eq_true_eq] at *
    rw [frcCmp_neg] at *
    exact cross_trans (hok _ (by omega)).b0 (hok y.val (by omega)).b0 (hok _ (by omega)).b0 h1 h2
  ntrans := fun x y z h1 h2 => by
    unfold ltOf at *
    rw [decide_eq_false_iff_not] at *
    rw [frcCmp_neg] at *
    have := cross_ntrans (hok x.val (by omega)).b0 (hok y.val (by omega)).b0 (hok z.val (by omega)).b0 (Int.not_lt.1 h1) (Int.not_lt.1 h2)
    omega
theorem frcOrd_perm {l : FrcL} (hok : FrcsOk l) : (frcOrd l).Perm (List.range l.length) := by
  cases h : l.length with
  | zero => rw [frcOrd_zero h]; exact List.Perm.nil
  | succ m =>
    rw [frcOrd_succ h]
    have hp := (Sort.insertionSort_holds (frc_swo h hok) (Array.ofFn fun i => i) 0 (m + 1) (Nat.zero_le _) (by simp)).1
    obtain ⟨h1, _, h3⟩ := hp
    generalize Sort.insertionSort (ltOf fun (i k : Fin (m + 1)) => frcCmp l i.val k.val) (Array.ofFn fun i => i) 0 (m + 1) = A at *
    have e1 : A.extract 0 (m + 1) = A := by
      apply Array.extract_eq_self_of_le
      rw [h1]; simp
    have e2 : (Array.ofFn (n := m + 1) fun i => i).extract 0 (m + 1) = Array.ofFn fun i => i := by
      apply Array.extract_eq_self_of_le
      simp
    rw [e1, e2] at h3
    refine (h3.map Fin.val).trans (List.Perm.of_eq ?_)
    apply List.ext_getElem
    · simp
    · intro i h5 h6
      simp only [List.getElem_map, Array.getElem_toList, Array.getElem_ofFn, List.getElem_range]
theorem frcOrd_nodup {l : FrcL} (hok : FrcsOk l) : (frcOrd l).Nodup := (frcOrd_perm hok).nodup_iff.2 List.nodup_range
theorem alc_ok {c : CfgA} (hP : CfgP c) : (∀ r x, 0 ≤ alcO c.h (capQ c) r x) ∧ ∀ x, x < 3 → colS (alcO c.h (capQ c)) x c.h.length ≤ capQ c x :=
  alc_sum hP.hs (fun x hx => by have := hP.pc x hx; show 0 ≤ c.f (9 + x); omega) (frcOrd_nodup (hintFr_ok hP.hs))
def kOf (c : CfgA) (k : Nat) (hP : CfgP c) (hk : k < 3) : OKind :=
  if c.f 5 = 2 then partKc c k else if c.f (6 + k) = 2 then mqK (mqPc c k) (mqPc_ok hP hk) else lruK (c.f (9 + k)).toNat
theorem kOf_made {c : CfgA} {k : Nat} (hP : CfgP c) (hk : k < 3) : (kOf c k hP hk).Made c (k + 1) := by
  unfold kOf
  by_cases h1 : c.f 5 = 2
  · rw [if_pos h1]
    exact part_made hP hk h1 fun r _ => (alc_ok hP).1 r k
  · rw [if_neg h1]
    by_cases h2 : c.f (6 + k) = 2
    · rw [if_pos h2]
      exact mq_made hP hk h1 h2
    · rw [if_neg h2]
      exact lru_made hP hk h1 h2
end Go.Proofs.YtodephhlhdbeoaaGreat
namespace Go.Proofs.YtodephhlhdbeoaaGreat
open Go.RowKit Go.ChangeShapes Go.WideShapes
set_option linter.unusedVariables false
set_option linter.unusedSimpArgs false
theorem colS_len {O : Nat → Nat → Int} {t : Nat} {S : Nat → List Int} : ∀ n, (∀ r, r < n → ((S r).length : Int) ≤ O r t) → ((prtTo S n).length : Int) ≤ colS O t n
  | 0, _ => by simp [prtTo, colS]
  | n + 1, h => by
    rw [prtTo_succ, List.length_append]
    have h1 := colS_len n (fun r hr => h r (by omega))
    have h2 := h n (by omega)
    unfold colS
    omega
section
variable {c : CfgA} {k : Nat} {hP : CfgP c} {hk : k < 3}
theorem kOf_elim (P : OKind → Prop) (p1 : c.f 5 = 2 → P (partKc c k)) (p2 : c.f 5 ≠ 2 → c.f (6 + k) = 2 → P (mqK (mqPc c k) (mqPc_ok hP hk))) (p3 : c.f 5 ≠ 2 → c.f (6 + k) ≠ 2 → P (lruK (c.f (9 + k)).toNat)) : P (kOf c k hP hk) := by
  unfold kOf
  by_cases h1 : c.f 5 = 2
  · rw [if_pos h1]; exact p1 h1
  · rw [if_neg h1]
    by_cases h2 : c.f (6 + k) = 2
    · rw [if_pos h2]; exact p2 h1 h2
    · rw [if_neg h2]; exact p3 h1 h2
theorem kOf_cap {i : (kOf c k hP hk).ι} {s : (kOf c k hP hk).σ} {w : World} (h : (kOf c k hP hk).R i s w) : (((kOf c k hP hk).sp.all s).length : Int) ≤ c.f (9 + k) := by
  have hc := hP.pc k hk
  refine kOf_elim (hP := hP) (hk := hk) (fun K => ∀ (i : K.ι) (s : K.σ) (w : World), K.R i s w → ((K.sp.all s).length : Int) ≤ c.f (9 + k)) (fun h1 i s w h => ?_) (fun h1 h2 i s w h => ?_) (fun h1 h2 i s w h => ?_) i s w h
  · have h2 : PrtR (c.f 2) (capQ c) c.h (alcO c.h (capQ c)) k i s w := h
    have h3 := colS_len c.h.length h2.i.most
    have h4 := (alc_ok hP).2 k hk
    exact Int.le_trans h3 h4
  · have h3 : mqR i.1 i.2.1 i.2.2 (mqPc c k) s w := h
    have h4 := h3.2.len
    show ((mqAll (mqPc c k) s).length : Int) ≤ _
    have h5 : (mqPc c k).cap = (c.f (9 + k)).toNat := rfl
    omega
  · have h3 : lruR i.1 i.2.1 i.2.2 (c.f (9 + k)).toNat s w := h
    have h4 := h3.2
    show ((List.length (α := Int) s : Nat) : Int) ≤ _
    omega
theorem kOf_room (h0 : c.f 5 ≠ 2) {s : (kOf c k hP hk).σ} {b : Int} (h : ((kOf c k hP hk).sp.add s b).2.2 = true) : c.f (9 + k) ≤ (((kOf c k hP hk).sp.all s).length : Int) := by
  have hc := hP.pc k hk
  refine kOf_elim (hP := hP) (hk := hk) (fun K => ∀ (s : K.σ) (b : Int), (K.sp.add s b).2.2 = true → c.f (9 + k) ≤ ((K.sp.all s).length : Int)) (fun h1 => absurd h1 h0) (fun h1 h2 s b hg => ?_) (fun h1 h2 s b hg => ?_) s b h
  · have hg : (mqAdd (mqPc c k) s b).2.2 = true := hg
    show _ ≤ ((mqAll (mqPc c k) s).length : Int)
    have h5 : (mqPc c k).cap = (c.f (9 + k)).toNat := rfl
    unfold mqAdd at hg
    split at hg
    · cases hg
    · split at hg
      · omega
      · cases hg
  · have hg : (lruAdd (c.f (9 + k)).toNat s b).2.2 = true := hg
    show _ ≤ ((List.length (α := Int) s : Nat) : Int)
    unfold lruAdd at hg
    split at hg
    · cases hg
    · split at hg
      · cases hg
      · omega
theorem kOf_age0 : (kOf c k hP hk).sp.age (kOf c k hP hk).s0 = 0 :=
  kOf_elim (hP := hP) (hk := hk) (fun K => K.sp.age K.s0 = 0) (fun _ => rfl) (fun _ _ => rfl) (fun _ _ => rfl)
def takesB (c : CfgA) (k : Nat) (b level : Int) : Bool := decide (0 ≤ b) && decide (b < c.f 2) && (if c.f 5 = 2 then decide (0 < partV c.h (alcO c.h (capQ c)) b k) else (decide (c.f 5 ≠ 1) || decide (level = ((k + 1 : Nat) : Int))))
theorem takesB_sp {b level : Int} (h : takesB c k b level = true) : (kOf c k hP hk).sp.takes b := by
  unfold takesB at h
  simp only [Bool.and_eq_true] at h
  unfold kOf
  by_cases h1 : c.f 5 = 2
  · rw [if_pos h1]
    rw [if_pos h1] at h
    have h2 : 0 < partV c.h (alcO c.h (capQ c)) b k := of_decide_eq_true h.2
    exact h2
  · rw [if_neg h1]
    by_cases h2 : c.f (6 + k) = 2
    · rw [if_pos h2]; trivial
    · rw [if_neg h2]; trivial
end
section
set_option maxHeartbeats 4000000
set_option maxRecDepth 100000
theorem part_takes {c : CfgA} {k : Nat} {i : (partKc c k).ι} {w : World} {cb mb : Nat} {hv : Value} {s : (partKc c k).σ} {D : Int → Option Blk} (b level : Int) (h : CchB (partKc c k) i w cb mb c hv (k + 1) s D) (hp : c.f 5 = 2) :
    Calls Tryz.prog 30 #[.pointer (some ⟨cb, 0, none⟩), .int .i64 b, .int .i64 level] w fun e w' => e = .returned (.bool (decide (0 ≤ b) && decide (b < c.f 2) && decide (0 < partV c.h (alcO c.h (capQ c)) b k))) ∧ Only Non w w' := by
  have hx5 : w.cell? ⟨cb, 5, none⟩ = some (.int .i64 (c.f 5)) := h.box.cellAt (cch_f _ _ _ _ _ _ (by decide))
  rw [hp] at hx5
  have hx18 : w.cell? ⟨cb, 18, none⟩ = some (.iface 165 (.pointer (some ⟨PrtI.p i, 0, none⟩))) := h.box.cellAt (cch_o _ _ _ _ _ _)
  have HT := cch_there b h
  have hR : PrtR (c.f 2) (capQ c) c.h (alcO c.h (capQ c)) k i s w := h.ord
  have HP := prt_takes b w hR.b
  rw [hR.t] at HP
  have HP := Lib.hid HP
  generalize (decide (0 ≤ b) && decide (b < c.f 2)) = kk at *
  generalize (decide (0 < partV c.h (alcO c.h (capQ c)) b k)) = t at *
  have HT := Lib.hid HT
  clear h hR hp
  generalize PrtI.p i = p at *
  cases kk with
  | false =>
    go_enter Tryz.func30, Tryz.ntmps30
    go_wp2_with (go_at_call 100; refine HT.out.mono ?_; rintro e w1 ⟨rfl, rfl⟩)
    go_ret
    exact ⟨rfl, Only.refl _ _⟩
  | true =>
    have hta : ∀ w, (Instr.typeAssert (.iface 165 (.pointer (some ⟨p, 0, none⟩))) 143 165 true).run Tryz.prog w = .ok (.tuple #[.pointer (some ⟨p, 0, none⟩), .bool true]) w := fun w => by kernel_rfl
    go_enter Tryz.func30, Tryz.ntmps30
    go_wp2_with (first | (go_at_call 100; refine HT.out.mono ?_; rintro e w1 ⟨rfl, rfl⟩) | (go_at_call 101; refine HP.out.mono ?_; rintro e w1 ⟨rfl, ho1⟩))
    go_ret
    exact ⟨rfl, ho1.only⟩
theorem takes_any {c : CfgA} {k : Nat} {hP : CfgP c} {hk : k < 3} {i : (kOf c k hP hk).ι} {w : World} {cb mb : Nat} {hv : Value} {s : (kOf c k hP hk).σ} {D : Int → Option Blk} (b level : Int) (h : CchB (kOf c k hP hk) i w cb mb c hv (k + 1) s D) :
    Calls Tryz.prog 30 #[.pointer (some ⟨cb, 0, none⟩), .int .i64 b, .int .i64 level] w fun e w' => e = .returned (.bool (takesB c k b level)) ∧ Only Non w w' := by
  refine kOf_elim (hP := hP) (hk := hk) (fun K => ∀ (i : K.ι) (s : K.σ), CchB K i w cb mb c hv (k + 1) s D → Calls Tryz.prog 30 #[.pointer (some ⟨cb, 0, none⟩), .int .i64 b, .int .i64 level] w fun e w' => e = .returned (.bool (takesB c k b level)) ∧ Only Non w w') (fun h1 i s h => ?_) (fun h1 h2 i s h => ?_) (fun h1 h2 i s h => ?_) i s h
  · unfold takesB
    rw [if_pos h1]
    exact part_takes b level h h1
  · refine (cch_takes b level h h1).mono fun e w' ⟨h2, h3⟩ => ⟨?_, h3 ▸ Only.refl _ _⟩
    rw [h2]; unfold takesB; rw [if_neg h1]; rfl
  · refine (cch_takes b level h h1).mono fun e w' ⟨h2, h3⟩ => ⟨?_, h3 ▸ Only.refl _ _⟩
    rw [h2]; unfold takesB; rw [if_neg h1]; rfl
end
section
set_option maxHeartbeats 4000000
set_option maxRecDepth 100000
theorem put_there {KO : OKind} {i : KO.ι} {w : World} {cb mb : Nat} {c : CfgA} {hv : Value} {tier : Nat} {s : KO.σ} {D : Int → Option Blk} (h : CchB KO i w cb mb c hv tier s D)
    {b : Int} {dl : List Int} {dv : Value} (hby : Byt w dv dl) (hb0 : (decide (0 ≤ b) && decide (b < c.f 2)) = false) (level : Int) :
    Calls Tryz.prog 81 #[.pointer (some ⟨cb, 0, none⟩), .agg #[.int .i64 b, dv], .int .i64 level] w fun e w' => e = .returned (.tuple #[.agg zF, .bool false, .int .i64 9]) ∧ Only Non w w' := by
  obtain ⟨dA, dc, rfl, hdc, hdm, hsrc⟩ := id hby
  have HTH := fun W (hC : CchB KO i W cb mb c hv tier s D) => cch_there b hC
  rw [hb0] at HTH
  have HTH := Lib.hid HTH
  have H := Lib.hid h
  have hb1 := (Box.fresh w 38 #[.int .i64 b, .slice dA dl.length dc]).alloc (.cells zF 38)
  have hb2 := Box.fresh (w.alloc (.cells #[.int .i64 b, .slice dA dl.length dc] 38)) 38 zF
  rw [World.size_alloc] at hb2
  have HF1 := Lib.hid hb1
  have HV1 := Lib.hid hb2
  have HO1 := Lib.hid (((Only.refl Non w).alloc (.cells #[.int .i64 b, .slice dA dl.length dc] 38)).alloc (.cells zF 38))
  have H1 := Lib.hid (H.out.keep HO1.out)
  clear h hby hsrc hb1 hb2 hdc hdm
  go_enter Tryz.func81, Tryz.ntmps81
  go_upto_region 1 with fail
  change Code.wp _ _ _ _ ((w.alloc (.cells #[.int .i64 b, .slice dA dl.length dc] 38)).alloc (.cells zF 38))
  generalize (w.alloc (.cells #[.int .i64 b, .slice dA dl.length dc] 38)).alloc (.cells zF 38) = W1 at *
  obtain ⟨fb, hfb⟩ : ∃ fb, fb = w.heap.size := ⟨_, rfl⟩
  obtain ⟨rb, hrb⟩ : ∃ rb, rb = w.heap.size + 1 := ⟨_, rfl⟩
  have HSZ := Lib.hid (show w.heap.size ≤ rb by omega)
  rw [← hrb] at HV1
  rw [← hfb] at HF1
  rw [← hrb, ← hfb]
  clear hfb hrb
  have f0 : W1.cell? ⟨fb, 0, none⟩ = some (.int .i64 b) := HF1.out.cellAt rfl
  go_wp2_with (first | (go_at_call 100; refine (HTH.out W1 H1.out).mono ?_; rintro e W ⟨rfl, rfl⟩) | (refine wpList_store_row rfl 38 _ _ rfl rb zF rfl rfl 38 _ HV1.out (by kernel_rfl) rfl (by simp [zF, Value.oneCell']) ?_))
  (try simp only [Exit.inBlock, Exit.then])
  refine bodyPost_ret (results_ctt rfl _ _ rb _ zF (0, 0) _ rfl (HV1.out.setRow' _) Tryz.underlying38 rfl (by kernel_rfl)) rfl ?_
  exact ⟨rfl, HO1.out.setRow' (.inr HSZ.out) _⟩
theorem put_size {KO : OKind} {i : KO.ι} {w : World} {cb mb : Nat} {c : CfgA} {hv : Value} {tier : Nat} {s : KO.σ} {D : Int → Option Blk} (h : CchB KO i w cb mb c hv tier s D)
    {b : Int} {dl : List Int} {dv : Value} (hby : Byt w dv dl) (hb0 : (decide (0 ≤ b) && decide (b < c.f 2)) = true) (hl : (dl.length : Int) ≠ c.f 3) (level : Int) :
    Calls Tryz.prog 81 #[.pointer (some ⟨cb, 0, none⟩), .agg #[.int .i64 b, dv], .int .i64 level] w fun e w' => e = .returned (.tuple #[.agg zF, .bool false, .int .i64 10]) ∧ Only Non w w' := by
  obtain ⟨dA, dc, rfl, hdc, hdm, hsrc⟩ := id hby
  have HTH := fun W (hC : CchB KO i W cb mb c hv tier s D) => cch_there b hC
  rw [hb0] at HTH
  have HTH := Lib.hid HTH
  generalize hz : c.f 3 = sz at *
  have HZ := Lib.hid hz
  clear hz
  have hne : ((dl.length : Int) != sz) = true := by simpa using hl
  clear hl
  have H := Lib.hid h
  have hb1 := (Box.fresh w 38 #[.int .i64 b, .slice dA dl.length dc]).alloc (.cells zF 38)
  have hb2 := Box.fresh (w.alloc (.cells #[.int .i64 b, .slice dA dl.length dc] 38)) 38 zF
  rw [World.size_alloc] at hb2
  have HF1 := Lib.hid hb1
  have HV1 := Lib.hid hb2
  have HO1 := Lib.hid (((Only.refl Non w).alloc (.cells #[.int .i64 b, .slice dA dl.length dc] 38)).alloc (.cells zF 38))
  have H1 := Lib.hid (H.out.keep HO1.out)
  clear h hby hsrc hb1 hb2 hdc hdm
  go_enter Tryz.func81, Tryz.ntmps81
  go_upto_region 1 with fail
  change Code.wp _ _ _ _ ((w.alloc (.cells #[.int .i64 b, .slice dA dl.length dc] 38)).alloc (.cells zF 38))
  generalize (w.alloc (.cells #[.int .i64 b, .slice dA dl.length dc] 38)).alloc (.cells zF 38) = W1 at *
  obtain ⟨fb, hfb⟩ : ∃ fb, fb = w.heap.size := ⟨_, rfl⟩
  obtain ⟨rb, hrb⟩ : ∃ rb, rb = w.heap.size + 1 := ⟨_, rfl⟩
  have HSZ := Lib.hid (show w.heap.size ≤ rb by omega)
  rw [← hrb] at HV1
  rw [← hfb] at HF1
  rw [← hrb, ← hfb]
  clear hfb hrb
  have f0 : W1.cell? ⟨fb, 0, none⟩ = some (.int .i64 b) := HF1.out.cellAt rfl
  have f1 : W1.cell? ⟨fb, 1, none⟩ = some (.slice dA dl.length dc) := HF1.out.cellAt rfl
  have s3 : W1.cell? ⟨cb, 3, none⟩ = some (.int .i64 sz) := by rw [← HZ.out]; exact H1.out.box.cellAt (cch_f _ _ _ _ _ _ (by decide))
  go_upto_region 5 with (go_at_call 100; refine (HTH.out W1 H1.out).mono ?_; rintro e W ⟨rfl, rfl⟩)
  refine wp_region_tail (S := (fun w' : World => w' = W1.drew)) 9 (by kernel_rfl) (by kernel_rfl) ?_ ?_
  · rfl
  intro hSS
  refine wpHd_take (i := 0) (v := ?_) (by kernel_rfl) rfl (by kernel_rfl) (fun _ _ _ h => h) (.inl ⟨by rfl, ?_⟩) hSS ?_
  rotate_left
  · intro w hSw; (try dsimp only at hSw); go_simp; (try with_reducible rfl)
  refine wpHd_take (i := 1) (v := ?_) (by kernel_rfl) rfl (by kernel_rfl) (fun _ _ _ h => h) (.inl ⟨by rfl, ?_⟩) hSS ?_
  rotate_left
  · intro w hSw; (try dsimp only at hSw); go_simp; (try with_reducible rfl)
  refine wpHd_take (i := 2) (v := ?_) (by kernel_rfl) rfl (by kernel_rfl) (fun _ _ _ h => h) (.inl ⟨by rfl, ?_⟩) hSS ?_
  rotate_left
  · intro w hSw; (try dsimp only at hSw); go_simp; (try with_reducible rfl)
  refine wpHd_take (i := 3) (v := ?_) (by kernel_rfl) rfl (by kernel_rfl) (fun _ _ _ h => h) (.inl ⟨by rfl, ?_⟩) hSS ?_
  rotate_left
  · intro w hSw; (try dsimp only at hSw); go_simp; (try with_reducible rfl)
  refine wpHd_take (i := 4) (v := ?_) (by kernel_rfl) rfl (by kernel_rfl) (fun _ _ _ h => h) (.inl ⟨by rfl, ?_⟩) hSS ?_
  rotate_left
  · intro w hSw; (try dsimp only at hSw); go_simp; (try with_reducible rfl)
  try simp only [Act.put, List.getElem_toArray, List.getElem_cons_succ, List.getElem_cons_zero, List.setIfInBounds_toArray, List.set_cons_zero, List.set_cons_succ]
  refine wpHd_take (i := 5) (v := ?_) (by kernel_rfl) rfl (by kernel_rfl) (fun _ _ _ h => h) (.inl ⟨by rfl, ?_⟩) hSS ?_
  rotate_left
  · intro w hSw; (try dsimp only at hSw); go_simp; (try with_reducible rfl)
  refine wpHd_take (i := 6) (v := ?_) (by kernel_rfl) rfl (by kernel_rfl) (fun _ _ _ h => h) (.inl ⟨by rfl, ?_⟩) hSS ?_
  rotate_left
  · intro w hSw; (try dsimp only at hSw); go_simp; (try with_reducible rfl)
  refine wpHd_take (i := 7) (v := ?_) (by kernel_rfl) rfl (by kernel_rfl) (fun _ _ _ h => h) (.inl ⟨by rfl, ?_⟩) hSS ?_
  rotate_left
  · intro w hSw; (try dsimp only at hSw); go_simp; (try with_reducible rfl)
  refine wpHd_take (i := 8) (v := ?_) (by kernel_rfl) rfl (by kernel_rfl) (fun _ _ _ h => h) (.inl ⟨by rfl, ?_⟩) hSS ?_
  rotate_left
  · intro w hSw; (try dsimp only at hSw); go_simp; (try with_reducible rfl)
  try simp only [Act.put, List.getElem_toArray, List.getElem_cons_succ, List.getElem_cons_zero, List.setIfInBounds_toArray, List.set_cons_zero, List.set_cons_succ]
  refine wpHd_end (by kernel_rfl) ?_
  clear hSS HTH
  have HF2 := Lib.hid (show Box W1.drew fb 38 #[.int .i64 b, .slice dA dl.length dc] from HF1.out)
  have HV2 := Lib.hid (show Box W1.drew rb 38 zF from HV1.out)
  have HO2 := Lib.hid HO1.out.drew
  have H2 := Lib.hid (show CchB KO i W1.drew cb mb c hv tier s D from H1.out.keep ((Only.refl Non W1).drew))
  clear f0 f1 s3 H1 HF1 HV1 HO1
  generalize W1.drew = W2 at *
  go_wp2_with (refine wpList_store_row rfl 38 _ _ rfl rb zF rfl rfl 38 _ HV2.out (by kernel_rfl) rfl (by simp [zF, Value.oneCell']) ?_)
  (try simp only [Exit.inBlock, Exit.then])
  refine bodyPost_ret (results_ctt rfl _ _ rb _ zF (0, 0) _ rfl (HV2.out.setRow' _) Tryz.underlying38 rfl (by kernel_rfl)) rfl ?_
  exact ⟨rfl, HO2.out.setRow' (.inr HSZ.out) _⟩
theorem put_takes {KO : OKind} {i : KO.ι} {w : World} {cb mb : Nat} {c : CfgA} {hv : Value} {tier : Nat} {s : KO.σ} {D : Int → Option Blk} (h : CchB KO i w cb mb c hv tier s D)
    {b : Int} {dl : List Int} {dv : Value} (hby : Byt w dv dl) (hb0 : (decide (0 ≤ b) && decide (b < c.f 2)) = true) (hl : (dl.length : Int) = c.f 3) (level : Int)
    (HT : ∀ w', CchB KO i w' cb mb c hv tier s D → Calls Tryz.prog 30 #[.pointer (some ⟨cb, 0, none⟩), .int .i64 b, .int .i64 level] w' fun e w'' => e = .returned (.bool false) ∧ Only Non w' w'') :
    Calls Tryz.prog 81 #[.pointer (some ⟨cb, 0, none⟩), .agg #[.int .i64 b, dv], .int .i64 level] w fun e w' => e = .returned (.tuple #[.agg zF, .bool false, .int .i64 5]) ∧ Only Non w w' := by
  obtain ⟨dA, dc, rfl, hdc, hdm, hsrc⟩ := id hby
  have HTH := fun W (hC : CchB KO i W cb mb c hv tier s D) => cch_there b hC
  rw [hb0] at HTH
  have HTH := Lib.hid HTH
  generalize hz : c.f 3 = sz at *
  have HZ := Lib.hid hz
  clear hz
  have HTK := Lib.hid HT
  clear HT
  have hne : ((dl.length : Int) != sz) = false := by simpa using hl
  clear hl
  have H := Lib.hid h
  have hb1 := (Box.fresh w 38 #[.int .i64 b, .slice dA dl.length dc]).alloc (.cells zF 38)
  have hb2 := Box.fresh (w.alloc (.cells #[.int .i64 b, .slice dA dl.length dc] 38)) 38 zF
  rw [World.size_alloc] at hb2
  have HF1 := Lib.hid hb1
  have HV1 := Lib.hid hb2
  have HO1 := Lib.hid (((Only.refl Non w).alloc (.cells #[.int .i64 b, .slice dA dl.length dc] 38)).alloc (.cells zF 38))
  have H1 := Lib.hid (H.out.keep HO1.out)
  clear h hby hsrc hb1 hb2 hdc hdm
  go_enter Tryz.func81, Tryz.ntmps81
  go_upto_region 1 with fail
  change Code.wp _ _ _ _ ((w.alloc (.cells #[.int .i64 b, .slice dA dl.length dc] 38)).alloc (.cells zF 38))
  generalize (w.alloc (.cells #[.int .i64 b, .slice dA dl.length dc] 38)).alloc (.cells zF 38) = W1 at *
  obtain ⟨fb, hfb⟩ : ∃ fb, fb = w.heap.size := ⟨_, rfl⟩
  obtain ⟨rb, hrb⟩ : ∃ rb, rb = w.heap.size + 1 := ⟨_, rfl⟩
  have HSZ := Lib.hid (show w.heap.size ≤ rb by omega)
  rw [← hrb] at HV1
  rw [← hfb] at HF1
  rw [← hrb, ← hfb]
  clear hfb hrb
  have f0 : W1.cell? ⟨fb, 0, none⟩ = some (.int .i64 b) := HF1.out.cellAt rfl
  have f1 : W1.cell? ⟨fb, 1, none⟩ = some (.slice dA dl.length dc) := HF1.out.cellAt rfl
  have s3 : W1.cell? ⟨cb, 3, none⟩ = some (.int .i64 sz) := by rw [← HZ.out]; exact H1.out.box.cellAt (cch_f _ _ _ _ _ _ (by decide))
  go_upto_region 5 with (go_at_call 100; refine (HTH.out W1 H1.out).mono ?_; rintro e W ⟨rfl, rfl⟩)
  refine wp_region_tail (S := (fun w' : World => w' = W1.drew)) 9 (by kernel_rfl) (by kernel_rfl) ?_ ?_
  · rfl
  intro hSS
  refine wpHd_take (i := 0) (v := ?_) (by kernel_rfl) rfl (by kernel_rfl) (fun _ _ _ h => h) (.inl ⟨by rfl, ?_⟩) hSS ?_
  rotate_left
  · intro w hSw; (try dsimp only at hSw); go_simp; (try with_reducible rfl)
  refine wpHd_take (i := 1) (v := ?_) (by kernel_rfl) rfl (by kernel_rfl) (fun _ _ _ h => h) (.inl ⟨by rfl, ?_⟩) hSS ?_
  rotate_left
  · intro w hSw; (try dsimp only at hSw); go_simp; (try with_reducible rfl)
  refine wpHd_take (i := 2) (v := ?_) (by kernel_rfl) rfl (by kernel_rfl) (fun _ _ _ h => h) (.inl ⟨by rfl, ?_⟩) hSS ?_
  rotate_left
  · intro w hSw; (try dsimp only at hSw); go_simp; (try with_reducible rfl)
  refine wpHd_take (i := 3) (v := ?_) (by kernel_rfl) rfl (by kernel_rfl) (fun _ _ _ h => h) (.inl ⟨by rfl, ?_⟩) hSS ?_
  rotate_left
  · intro w hSw; (try dsimp only at hSw); go_simp; (try with_reducible rfl)
  refine wpHd_take (i := 4) (v := ?_) (by kernel_rfl) rfl (by kernel_rfl) (fun _ _ _ h => h) (.inl ⟨by rfl, ?_⟩) hSS ?_
  rotate_left
  · intro w hSw; (try dsimp only at hSw); go_simp; (try with_reducible rfl)
  try simp only [Act.put, List.getElem_toArray, List.getElem_cons_succ, List.getElem_cons_zero, List.setIfInBounds_toArray, List.set_cons_zero, List.set_cons_succ]
  refine wpHd_take (i := 5) (v := ?_) (by kernel_rfl) rfl (by kernel_rfl) (fun _ _ _ h => h) (.inl ⟨by rfl, ?_⟩) hSS ?_
  rotate_left
  · intro w hSw; (try dsimp only at hSw); go_simp; (try with_reducible rfl)
  refine wpHd_take (i := 6) (v := ?_) (by kernel_rfl) rfl (by kernel_rfl) (fun _ _ _ h => h) (.inl ⟨by rfl, ?_⟩) hSS ?_
  rotate_left
  · intro w hSw; (try dsimp only at hSw); go_simp; (try with_reducible rfl)
  refine wpHd_take (i := 7) (v := ?_) (by kernel_rfl) rfl (by kernel_rfl) (fun _ _ _ h => h) (.inl ⟨by rfl, ?_⟩) hSS ?_
  rotate_left
  · intro w hSw; (try dsimp only at hSw); go_simp; (try with_reducible rfl)
  refine wpHd_take (i := 8) (v := ?_) (by kernel_rfl) rfl (by kernel_rfl) (fun _ _ _ h => h) (.inl ⟨by rfl, ?_⟩) hSS ?_
  rotate_left
  · intro w hSw; (try dsimp only at hSw); go_simp; (try with_reducible rfl)
  try simp only [Act.put, List.getElem_toArray, List.getElem_cons_succ, List.getElem_cons_zero, List.setIfInBounds_toArray, List.set_cons_zero, List.set_cons_succ]
  refine wpHd_end (by kernel_rfl) ?_
  clear hSS HTH
  go_upto_region 7 with fail
  have HF2 := Lib.hid (show Box W1.drew fb 38 #[.int .i64 b, .slice dA dl.length dc] from HF1.out)
  have HV2 := Lib.hid (show Box W1.drew rb 38 zF from HV1.out)
  have HO2 := Lib.hid HO1.out.drew
  have H2 := Lib.hid (show CchB KO i W1.drew cb mb c hv tier s D from H1.out.keep ((Only.refl Non W1).drew))
  clear f0 f1 s3 H1 HF1 HV1 HO1
  generalize W1.drew = W2 at *
  have f0 : W2.cell? ⟨fb, 0, none⟩ = some (.int .i64 b) := HF2.out.cellAt rfl
  go_upto_region 8 with (go_at_call 30; refine (HTK.out W2 H2.out).mono ?_; rintro e W3 ⟨rfl, ho3⟩)
  have HV3 := Lib.hid (ho3.box HV2.out id)
  have HO3 := Lib.hid (HO2.out.trans ho3)
  clear ho3
  go_wp2_with (refine wpList_store_row rfl 38 _ _ rfl rb zF rfl rfl 38 _ HV3.out (by kernel_rfl) rfl (by simp [zF, Value.oneCell']) ?_)
  (try simp only [Exit.inBlock, Exit.then])
  refine bodyPost_ret (results_ctt rfl _ _ rb _ zF (0, 0) _ rfl (HV3.out.setRow' _) Tryz.underlying38 rfl (by kernel_rfl)) rfl ?_
  exact ⟨rfl, HO3.out.setRow' (.inr HSZ.out) _⟩
end
structure ActC where
  kind : Int
  level : Int
  b : Int
  data : List Int
instance : Inhabited ActC := ⟨⟨0, 0, 0, []⟩⟩
def actC (a : ActC) (dv : Value) : Array Value := #[.int .i64 a.kind, .int .i64 a.level, .int .i64 a.b, dv]
structure CActsAt (base : Nat) (w : World) (A : Option Addr) (n c : Nat) (L : List ActC) : Prop where
  len : n = L.length
  cap : n ≤ c
  max : c ≤ maxLen
  at_ : ∀ i, i < L.length → ∃ g o dv, A = some ⟨g, o, none⟩ ∧ g < base ∧ (∀ j u, (actC (L.getD i default) dv)[j]? = some u → w.cell? ⟨g, o + i * 4 + j, none⟩ = some u) ∧ Byt w dv (L.getD i default).data ∧ (∀ k, 0 < (L.getD i default).data.length → ownB dv k → k < base)
theorem CActsAt.only {S : Nat → Prop} {base : Nat} {w w' : World} {A : Option Addr} {n c : Nat} {L : List ActC} (h : CActsAt base w A n c L) (ho : Only S w w') (hS : ∀ k, k < base → ¬ S k) : CActsAt base w' A n c L :=
  ⟨h.len, h.cap, h.max, fun i hi => by
    obtain ⟨g, o, dv, rfl, hg, hc, hb, hk⟩ := h.at_ i hi
    exact ⟨g, o, dv, rfl, hg, fun j u hj => ho.cell (hc j u hj) (hS g hg), hb.keep ho fun h0 k hk2 _ => hS k (hk k h0 hk2), hk⟩⟩
theorem CActsAt.keep {base : Nat} {w w' : World} {A : Option Addr} {n c : Nat} {L : List ActC} (h : CActsAt base w A n c L) (ho : Only Non w w') : CActsAt base w' A n c L := h.only ho fun _ _ => id
def longB (h : Nat) (L : List ActC) : Bool := decide (20 < h) || decide (120 < L.length) || L.any fun a => decide (100 < a.data.length)
theorem longB_no {h : Nat} {L : List ActC} (e : longB h L = false) : h ≤ 20 ∧ L.length ≤ 120 ∧ ∀ i, i < L.length → (L.getD i default).data.length ≤ 100 := by
  unfold longB at e
  simp only [Bool.or_eq_false_iff, decide_eq_false_iff_not, List.any_eq_false, decide_eq_true_eq] at e
  refine ⟨by omega, by omega, fun i hi => ?_⟩
  have := e.2 (L.getD i default) (by simp [hi])
  omega
def LgRel (L : List ActC) (W : World) (i : Value) (wr : World) : Prop := ∃ k : Nat, k ≤ L.length ∧ i = .int .i64 k ∧ (∀ j, j < k → (L.getD j default).data.length ≤ 100) ∧ W = wr
section
set_option maxHeartbeats 4000000
set_option maxRecDepth 100000
theorem long_any {base : Nat} {w : World} {cf : CfgA} {A : Option Addr} {m : Nat} {B : Option Addr} {n c : Nat} {L : List ActC} (hL : CActsAt base w B n c L) (hm : cf.h.length ≤ maxLen) :
    Calls Tryz.prog 18 #[.agg (cfgCells cf (.slice A cf.h.length m)), .slice B n c] w fun e w' => e = .returned (.bool (longB cf.h.length L)) ∧ Only Non w w' := by
  obtain rfl := hL.len
  have hn := Nat.le_trans hL.cap hL.max
  unfold maxLen at hn hm
  have HO := Lib.hid ((Only.refl Non w).alloc (.cells (cfgCells cf (.slice A cf.h.length m)) 25))
  have HL := Lib.hid (hL.keep HO.out)
  have HB := Lib.hid (Box.fresh w 25 (cfgCells cf (.slice A cf.h.length m)))
  clear hL
  go_enter Tryz.func18, Tryz.ntmps18
  go_upto_region 1 with fail
  change Code.wp _ _ _ _ (w.alloc (.cells (cfgCells cf (.slice A cf.h.length m)) 25))
  generalize w.alloc (.cells (cfgCells cf (.slice A cf.h.length m)) 25) = W at *
  generalize w.heap.size = g at *
  have x16 : W.cell? ⟨g, 16, none⟩ = some (.slice A cf.h.length m) := HB.out.cellAt (cfgCells_hs cf _)
  have hlb : longB cf.h.length L = (decide (20 < cf.h.length) || decide (120 < L.length) || L.any fun a => decide (100 < a.data.length)) := rfl
  have HLB := Lib.hid hlb
  clear hlb
  by_cases c1 : 20 < cf.h.length
  · have c1i : (20 : Int) < cf.h.length := by omega
    go_wp2
    go_ret
    exact ⟨by rw [HLB.out]; simp [c1], HO.out⟩
  · have c1i : ¬ (20 : Int) < cf.h.length := by omega
    by_cases c2 : 120 < L.length
    · have c2i : (120 : Int) < L.length := by omega
      go_wp2
      go_ret
      exact ⟨by rw [HLB.out]; simp [c2], HO.out⟩
    · have c2i : ¬ (120 : Int) < L.length := by omega
      go_upto_region 4 with fail
      go_loopw [17] (fun i wr => LgRel L W i wr) (fun i _ => L.length - (intOf i).toNat)
      case atStart => exact ⟨0, Nat.zero_le _, rfl, fun j hj => absurd hj (by omega), rfl⟩
      case round =>
        obtain ⟨k, hk, rfl, hno, rfl⟩ := hrel
        have HNO := Lib.hid hno
        clear hno
        by_cases hlt : k < L.length
        · obtain ⟨g', o', dv, rfl, hg, hc, hb, _⟩ := HL.out.at_ k hlt
          have y3 := hc 3 dv rfl
          obtain ⟨dA, dc, rfl, _, hmx, _⟩ := id hb
          have hlti : (k : Int) < L.length := by omega
          have HLT := Lib.hid hlt
          have HMEM := Lib.hid (show L.getD k default ∈ L by simp [hlt])
          clear hc hb hlt hk
          generalize hd : L.getD k default = a at *
          have HD := Lib.hid hd
          clear hd
          by_cases c3 : 100 < a.data.length
          · have c3i : (100 : Int) < a.data.length := by omega
            go_wp2
            go_ret
            refine ⟨?_, HO.out⟩
            rw [HLB.out]
            have : (L.any fun a => decide (100 < a.data.length)) = true := List.any_eq_true.2 ⟨a, HMEM.out, by simpa using c3⟩
            rw [this]; simp
          · have c3i : ¬ (100 : Int) < a.data.length := by omega
            go_wp2
            go_roundw
            case rel =>
              refine ⟨k + 1, HLT.out, by go_num, fun j hj => ?_, rfl⟩
              by_cases e : j = k
              · rw [e, HD.out]; omega
              · exact HNO.out j (by omega)
            case measure => simp [intOf]; have := HLT.out; omega
        · obtain rfl : k = L.length := by omega
          clear hlt hk
          go_wp2
          go_ret
          refine ⟨?_, HO.out⟩
          rw [HLB.out]
          have : (L.any fun a => decide (100 < a.data.length)) = false := List.any_eq_false.2 fun a ha => by
            obtain ⟨j, hj, rfl⟩ := List.getElem_of_mem ha
            have := HNO.out j hj
            simp [hj] at this
            simp; omega
          rw [this]; simp [c1, c2]
theorem cch_new_no {c : CfgA} (hP : ¬ CfgP c) (tier : Int) {A : Option Addr} {n cp : Nat} (w : World) (hin : HintsAt w A n cp c.h) :
    Calls Tryz.prog 19 #[.agg (cfgCells c (.slice A n cp)), .int .i64 tier] w fun e w' => e = .returned (.tuple #[.pointer none, .int .i64 6]) ∧ Only Non w w' := by
  have HI := Lib.hid hin
  have HB := Lib.hid (Box.fresh w 25 (cfgCells c (.slice A n cp)))
  have HO := Lib.hid ((Only.refl Non w).alloc (.cells (cfgCells c (.slice A n cp)) 25))
  have hr := right_any A n cp c _ (HI.out.keep HO.out)
  rw [cfgB_no hP] at hr
  have HR := Lib.hid hr
  clear hr hin hP
  go_enter Tryz.func19, Tryz.ntmps19
  go_upto_region 1 with fail
  change Code.wp _ _ _ _ (w.alloc (.cells (cfgCells c (.slice A n cp)) 25))
  generalize w.alloc (.cells (cfgCells c (.slice A n cp)) 25) = W at *
  generalize w.heap.size = bb at *
  go_wp2_with (first | (refine wpList_load_row rfl 25 _ rfl bb rfl 25 (cfgCells c (.slice A n cp)) (0, 0) _ HB.out Tryz.underlying25 rfl (by kernel_rfl) ?_) | (go_at_call 83; refine HR.out.mono ?_; rintro e W2 ⟨rfl, ho2⟩))
  go_ret2
  exact ⟨rfl, HO.out.trans ho2⟩
theorem cch_new_tier {c : CfgA} (hP : CfgP c) {tier : Int} (ht : tier < 1 ∨ 3 < tier) {A : Option Addr} {n cp : Nat} (w : World) (hin : HintsAt w A n cp c.h) :
    Calls Tryz.prog 19 #[.agg (cfgCells c (.slice A n cp)), .int .i64 tier] w fun e w' => e = .returned (.tuple #[.pointer none, .int .i64 6]) ∧ Only Non w w' := by
  have HI := Lib.hid hin
  have HB := Lib.hid (Box.fresh w 25 (cfgCells c (.slice A n cp)))
  have HO := Lib.hid ((Only.refl Non w).alloc (.cells (cfgCells c (.slice A n cp)) 25))
  have hr := right_any A n cp c _ (HI.out.keep HO.out)
  rw [cfgB_yes hP] at hr
  have HR := Lib.hid hr
  clear hr hin hP
  rcases ht with ht | ht
  · go_enter Tryz.func19, Tryz.ntmps19
    go_upto_region 1 with fail
    change Code.wp _ _ _ _ (w.alloc (.cells (cfgCells c (.slice A n cp)) 25))
    generalize w.alloc (.cells (cfgCells c (.slice A n cp)) 25) = W at *
    generalize w.heap.size = bb at *
    go_wp2_with (first | (refine wpList_load_row rfl 25 _ rfl bb rfl 25 (cfgCells c (.slice A n cp)) (0, 0) _ HB.out Tryz.underlying25 rfl (by kernel_rfl) ?_) | (go_at_call 83; refine HR.out.mono ?_; rintro e W2 ⟨rfl, ho2⟩))
    go_ret2
    exact ⟨rfl, HO.out.trans ho2⟩
  · have ht1 : ¬ tier < 1 := by omega
    go_enter Tryz.func19, Tryz.ntmps19
    go_upto_region 1 with fail
    change Code.wp _ _ _ _ (w.alloc (.cells (cfgCells c (.slice A n cp)) 25))
    generalize w.alloc (.cells (cfgCells c (.slice A n cp)) 25) = W at *
    generalize w.heap.size = bb at *
    go_wp2_with (first | (refine wpList_load_row rfl 25 _ rfl bb rfl 25 (cfgCells c (.slice A n cp)) (0, 0) _ HB.out Tryz.underlying25 rfl (by kernel_rfl) ?_) | (go_at_call 83; refine HR.out.mono ?_; rintro e W2 ⟨rfl, ho2⟩))
    go_ret2
    exact ⟨rfl, HO.out.trans ho2⟩
end
end Go.Proofs.YtodephhlhdbeoaaGreat
namespace Go.Proofs.YtodephhlhdbeoaaGreat
open Go.Shelf
set_option linter.unusedVariables false
def densB (l : FrcL) (i k : Nat) : Bool := decide (frcCmp l i k < 0) || (decide (¬ frcCmp l k i < 0) && decide (i < k))
section
variable {α : Type} [Inhabited α]
theorem insInner_alike {lt lt' : α → α → Bool} (x : α) : ∀ (a j : Nat) (d : Array α), j < d.size → d[j]! = x → (∀ p, p < j → lt x d[p]! = lt' x d[p]!) → Sort.insInner lt a j d = Sort.insInner lt' a j d
  | a, 0, d, _, _, _ => by unfold Sort.insInner; rfl
  | a, j + 1, d, hj, hd, h => by
    unfold Sort.insInner
    rw [hd, h j (by omega)]
    split
    · refine insInner_alike x a j _ (by rw [Sort.swp_size]; omega) ?_ fun p hp => ?_
      · rw [Sort.swp_get d (i := j + 1) (j := j) (by omega) (by omega) j, if_pos rfl, hd]
      · rw [Sort.swp_get d (i := j + 1) (j := j) (by omega) (by omega) p, if_neg (by omega), if_neg (by omega)]
        exact h p (by omega)
    · rfl
theorem insInner_vals {lt : α → α → Bool} (P : α → Prop) (a i : Nat) : ∀ (j : Nat) (d : Array α), j ≤ i → i < d.size → (∀ p, p ≤ i → P d[p]!) →
    (Sort.insInner lt a j d).size = d.size ∧ (∀ p, p ≤ i → P (Sort.insInner lt a j d)[p]!) ∧ ∀ p, i < p → (Sort.insInner lt a j d)[p]! = d[p]!
  | 0, d, _, _, h => by unfold Sort.insInner; exact ⟨rfl, h, fun _ _ => rfl⟩
  | j + 1, d, hj, hi, h => by
    unfold Sort.insInner
    split
    · obtain ⟨h1, h2, h3⟩ := insInner_vals P a i j (Sort.swp d (j + 1) j) (by omega) (by rw [Sort.swp_size]; exact hi) fun p hp => by
        rw [Sort.swp_get d (i := j + 1) (j := j) (by omega) (by omega) p]
        split
        · exact h _ (by omega)
        · split
          · exact h _ (by omega)
          · exact h p hp
      refine ⟨by rw [h1, Sort.swp_size], h2, fun p hp => ?_⟩
      rw [h3 p hp, Sort.swp_get d (i := j + 1) (j := j) (by omega) (by omega) p, if_neg (by omega), if_neg (by omega)]
    · exact ⟨rfl, h, fun _ _ => rfl⟩
end
theorem insOuter_step {α : Type} [Inhabited α] (lt : α → α → Bool) (a b i : Nat) (d : Array α) : Sort.insOuter lt a b i d = if i < b then Sort.insOuter lt a b (i + 1) (Sort.insInner lt a i d) else d := by rw [Sort.insOuter]
theorem insOuter_alike {m : Nat} {lt lt' : Fin (m + 1) → Fin (m + 1) → Bool} (hlt : ∀ x y, y.val < x.val → lt x y = lt' x y) : ∀ (n i : Nat) (d : Array (Fin (m + 1))), m + 1 - i = n → d.size = m + 1 → (∀ p, i ≤ p → p < m + 1 → (d[p]!).val = p) → (∀ p, p < i → (d[p]!).val < i) →
    Sort.insOuter lt 0 (m + 1) i d = Sort.insOuter lt' 0 (m + 1) i d
  | 0, i, d, hn, hs, h1, h2 => by
    rw [insOuter_step lt 0 (m + 1) i d, insOuter_step lt' 0 (m + 1) i d, if_neg (by omega), if_neg (by omega)]
  | n + 1, i, d, hn, hs, h1, h2 => by
    have hi : i < m + 1 := by omega
    rw [insOuter_step lt 0 (m + 1) i d, insOuter_step lt' 0 (m + 1) i d, if_pos hi, if_pos hi]
    have e := insInner_alike (lt := lt) (lt' := lt') d[i]! 0 i d (by omega) rfl fun p hp => hlt _ _ (by rw [h1 i (Nat.le_refl _) hi]; exact h2 p hp)
    rw [e]
    obtain ⟨g1, g2, g3⟩ := insInner_vals (lt := lt') (fun x : Fin (m + 1) => x.val < i + 1) 0 i i d (Nat.le_refl _) (by omega) fun p hp => by
      by_cases e : p = i
      · subst e; rw [h1 p (Nat.le_refl _) hi]; omega
      · have := h2 p (by omega); omega
    exact insOuter_alike hlt n (i + 1) _ (by omega) (by rw [g1, hs]) (fun p hp hp2 => by rw [g3 p (by omega)]; exact h1 p (by omega) hp2) fun p hp => g2 p (by omega)
theorem frcOrd_alike {l : FrcL} {m : Nat} (h : l.length = m + 1) : Sort.insertionSort (ltOf fun (i k : Fin (m + 1)) => frcCmp l i.val k.val) (Array.ofFn fun i => i) 0 (m + 1) = Sort.insertionSort (fun (i k : Fin (m + 1)) => densB l i.val k.val) (Array.ofFn fun i => i) 0 (m + 1) := by
  unfold Sort.insertionSort
  have hg : ∀ p, p < m + 1 → ((Array.ofFn (n := m + 1) fun i => i)[p]!).val = p := fun p hp => by
    rw [getElem!_pos _ p (by simp; exact hp)]
    simp only [Array.getElem_ofFn]
  refine insOuter_alike (fun x y hxy => ?_) _ _ _ rfl (by simp) (fun p hp hp2 => hg p hp2) fun p hp => by rw [hg p (by omega)]; omega
  unfold ltOf densB
  rw [decide_eq_false (show ¬ x.val < y.val by omega), Bool.and_false, Bool.or_false]
theorem densB_swo {l : FrcL} {m : Nat} (hm : l.length = m + 1) (hok : FrcsOk l) : Sort.SWO (fun (i k : Fin (m + 1)) => densB l i.val k.val) := by
  have b0 : ∀ x : Fin (m + 1), 0 < (l.getD x.val default).2 := fun x => (hok x.val (by omega)).b0
  have key : ∀ x y : Fin (m + 1), densB l x.val y.val = true ↔ ((l.getD y.val default).1 * (l.getD x.val default).2 < (l.getD x.val default).1 * (l.getD y.val default).2 ∨ (¬ (l.getD x.val default).1 * (l.getD y.val default).2 < (l.getD y.val default).1 * (l.getD x.val default).2 ∧ x.val < y.val)) := fun x y => by
    unfold densB
    simp only [Bool.or_eq_true, Bool.and_eq_true, decide_eq_true_eq, frcCmp_neg]
  refine ⟨fun x => ?_, fun x y z h1 h2 => ?_, fun x y z h1 h2 => ?_⟩
  · rw [Bool.eq_false_iff]
    intro h
    rcases (key x x).1 h with h | h <;> omega
  · have h1 := (key x y).1 h1
    have h2 := (key y z).1 h2
    refine (key x z).2 ?_
    rcases h1 with h1 | ⟨h1, e1⟩ <;> rcases h2 with h2 | ⟨h2, e2⟩
    · exact .inl (cross_trans (b0 x) (b0 y) (b0 z) h1 h2)
    · refine .inl (Int.not_le.1 fun h3 => ?_)
      exact absurd (cross_ntrans (b0 x) (b0 z) (b0 y) h3 (Int.not_lt.1 h2)) (by omega)
    · refine .inl (Int.not_le.1 fun h3 => ?_)
      exact absurd (cross_ntrans (b0 y) (b0 x) (b0 z) (Int.not_lt.1 h1) h3) (by omega)
    · exact .inr ⟨fun h3 => by
        have := cross_ntrans (b0 z) (b0 y) (b0 x) (Int.not_lt.1 h2) (Int.not_lt.1 h1)
        omega, by omega⟩
  · have n1 : ¬ _ := fun h => by rw [(key x y).2 h] at h1; cases h1
    have n2 : ¬ _ := fun h => by rw [(key y z).2 h] at h2; cases h2
    rw [Bool.eq_false_iff]
    intro h
    have h3 := (key x z).1 h
    have a1 := Int.not_lt.1 fun h => n1 (.inl h)
    have a2 := Int.not_lt.1 fun h => n2 (.inl h)
    have a3 := cross_ntrans (b0 x) (b0 y) (b0 z) a1 a2
    rcases h3 with h3 | ⟨h3, e3⟩
    · omega
    · by_cases c1 : (l.getD x.val default).1 * (l.getD y.val default).2 < (l.getD y.val default).1 * (l.getD x.val default).2
      · refine h3 (Int.not_le.1 fun h4 => ?_)
        exact absurd (cross_ntrans (b0 y) (b0 z) (b0 x) a2 h4) (by omega)
      · by_cases c2 : (l.getD y.val default).1 * (l.getD z.val default).2 < (l.getD z.val default).1 * (l.getD y.val default).2
        · refine h3 (Int.not_le.1 fun h4 => ?_)
          exact absurd (cross_ntrans (b0 z) (b0 x) (b0 y) h4 a1) (by omega)
        · have p1 : ¬ x.val < y.val := fun h => n1 (.inr ⟨c1, h⟩)
          have p2 : ¬ y.val < z.val := fun h => n2 (.inr ⟨c2, h⟩)
          omega
theorem frcOrd_sorted {l : FrcL} (hok : FrcsOk l) : ∀ i j, i < j → j < l.length → densB l ((frcOrd l).getD i 0) ((frcOrd l).getD j 0) = true := by
  intro i j hij hj
  cases h : l.length with
  | zero => omega
  | succ m =>
    have hlen := frcOrd_len l
    have hnod := frcOrd_nodup hok
    have hsz : (Sort.insertionSort (fun (i k : Fin (m + 1)) => densB l i.val k.val) (Array.ofFn fun i => i) 0 (m + 1)).size = m + 1 := by
      have := (Sort.insertionSort_holds (densB_swo h hok) (Array.ofFn fun i => i) 0 (m + 1) (Nat.zero_le _) (by simp)).1.1
      rw [this]; simp
    have hs := (Sort.insertionSort_holds (densB_swo h hok) (Array.ofFn fun i => i) 0 (m + 1) (Nat.zero_le _) (by simp)).2 i j (Nat.zero_le _) hij (by omega)
    rw [frcOrd_succ h, frcOrd_alike h] at hlen hnod ⊢
    generalize Sort.insertionSort (fun (i k : Fin (m + 1)) => densB l i.val k.val) (Array.ofFn fun i => i) 0 (m + 1) = A at *
    have gi : ∀ p, p < m + 1 → (A.toList.map Fin.val).getD p 0 = (A[p]!).val := fun p hp => by
      rw [List.getD_eq_getElem?_getD, List.getElem?_map, Array.getElem?_toList, Array.getElem?_eq_getElem (by omega), getElem!_pos A p (by omega)]
      rfl
    rw [gi i (by omega), gi j (by omega)]
    have hne : (A[i]!).val ≠ (A[j]!).val := fun e => by
      have h1 := List.pairwise_iff_getElem.1 hnod i j (by simp; omega) (by simp; omega) hij
      simp only [List.getElem_map, Array.getElem_toList] at h1
      rw [getElem!_pos A i (by omega), getElem!_pos A j (by omega)] at e
      exact h1 e
    generalize (A[i]!) = x at *
    generalize (A[j]!) = y at *
    have b0 : ∀ x : Fin (m + 1), 0 < (l.getD x.val default).2 := fun x => (hok x.val (by omega)).b0
    unfold densB at *
    simp only [Bool.or_eq_false_iff, Bool.and_eq_false_iff, decide_eq_false_iff_not, Bool.or_eq_true, Bool.and_eq_true, decide_eq_true_eq] at hs ⊢
    obtain ⟨h1, h2⟩ := hs
    by_cases c : frcCmp l x.val y.val < 0
    · exact .inl c
    · refine .inr ⟨h1, ?_⟩
      rcases h2 with h2 | h2
      · exact absurd c h2
      · omega
end Go.Proofs.YtodephhlhdbeoaaGreat
namespace Go.Proofs.YtodephhlhdbeoaaGreat
set_option linter.unusedVariables false
def aN (c : Nat → Int) (m : Int) : Nat → Int
  | 0 => min m (c 0)
  | 1 => min (m - min m (c 0)) (c 1)
  | 2 => min (m - min m (c 0) - min (m - min m (c 0)) (c 1)) (c 2)
  | _ => m - min m (c 0) - min (m - min m (c 0)) (c 1) - min (m - min m (c 0) - min (m - min m (c 0)) (c 1)) (c 2)
theorem aN_zero {c : Nat → Int} (h : ∀ x, x < 3 → 0 ≤ c x) (t : Nat) (ht : t < 4) : aN c 0 t = 0 := by
  have h0 := h 0 (by omega); have h1 := h 1 (by omega); have h2 := h 2 (by omega)
  rcases (show t = 0 ∨ t = 1 ∨ t = 2 ∨ t = 3 by omega) with rfl | rfl | rfl | rfl <;> (simp only [aN]; omega)
theorem aN_bound {c : Nat → Int} {m : Int} (hm : 0 ≤ m) (h : ∀ x, x < 3 → 0 ≤ c x) : (∀ t, t < 3 → 0 ≤ aN c m t ∧ aN c m t ≤ c t) ∧ 0 ≤ aN c m 3 ∧ aN c m 3 ≤ m ∧ ∀ t, t < 4 → aN c m t ≤ m := by
  have h0 := h 0 (by omega); have h1 := h 1 (by omega); have h2 := h 2 (by omega)
  refine ⟨fun t ht => ?_, ?_, ?_, fun t ht => ?_⟩
  · rcases (show t = 0 ∨ t = 1 ∨ t = 2 by omega) with rfl | rfl | rfl <;> (simp only [aN]; omega)
  · simp only [aN]; omega
  · simp only [aN]; omega
  · rcases (show t = 0 ∨ t = 1 ∨ t = 2 ∨ t = 3 by omega) with rfl | rfl | rfl | rfl <;> (simp only [aN]; omega)
theorem aN_succ {c : Nat → Int} {m : Int} (hm : 0 ≤ m) (h : ∀ x, x < 3 → 0 ≤ c x) {t : Nat} (ht : t < 4) (h1 : ∀ u, u < t → c u - aN c m u = 0) (h2 : t < 3 → c t - aN c m t ≠ 0) : ∀ u, u < 4 → aN c (m + 1) u = aN c m u + if u = t then 1 else 0 := by
  have c0 := h 0 (by omega); have c1 := h 1 (by omega); have c2 := h 2 (by omega)
  intro u hu
  rcases (show t = 0 ∨ t = 1 ∨ t = 2 ∨ t = 3 by omega) with rfl | rfl | rfl | rfl
  · have g := h2 (by omega)
    rcases (show u = 0 ∨ u = 1 ∨ u = 2 ∨ u = 3 by omega) with rfl | rfl | rfl | rfl <;> (simp only [aN] at *; (first | rw [if_true] | rw [if_pos rfl] | rw [if_neg (by decide)]); omega)
  · have g := h2 (by omega); have g0 := h1 0 (by omega)
    rcases (show u = 0 ∨ u = 1 ∨ u = 2 ∨ u = 3 by omega) with rfl | rfl | rfl | rfl <;> (simp only [aN] at *; (first | rw [if_true] | rw [if_pos rfl] | rw [if_neg (by decide)]); omega)
  · have g := h2 (by omega); have g0 := h1 0 (by omega); have g1 := h1 1 (by omega)
    rcases (show u = 0 ∨ u = 1 ∨ u = 2 ∨ u = 3 by omega) with rfl | rfl | rfl | rfl <;> (simp only [aN] at *; (first | rw [if_true] | rw [if_pos rfl] | rw [if_neg (by decide)]); omega)
  · have g0 := h1 0 (by omega); have g1 := h1 1 (by omega); have g2 := h1 2 (by omega)
    rcases (show u = 0 ∨ u = 1 ∨ u = 2 ∨ u = 3 by omega) with rfl | rfl | rfl | rfl <;> (simp only [aN] at *; (first | rw [if_true] | rw [if_pos rfl] | rw [if_neg (by decide)]); omega)
theorem alMid3 (l : List HintA) (s : AlS) (i : Nat) : alMid l s i 3 = alTier i (alTier i (alTier i { s with left := (l.getD i default).size } 0) 1) 2 := rfl
theorem alRange_c (l : List HintA) (s : AlS) (i : Nat) {t : Nat} (ht : t < 3) : (alRange l s i).c t = s.c t - aN s.c (l.getD i default).size t := by
  rw [alRange_eq, alMid3]
  rcases (show t = 0 ∨ t = 1 ∨ t = 2 by omega) with rfl | rfl | rfl <;> simp [alTier, aN]
theorem alRange_o (l : List HintA) (s : AlS) (i r : Nat) {t : Nat} (ht : t < 4) : (alRange l s i).o r t = if r = i then aN s.c (l.getD i default).size t else s.o r t := by
  rw [alRange_eq, alMid3]
  by_cases e : r = i
  · subst e
    rcases (show t = 0 ∨ t = 1 ∨ t = 2 ∨ t = 3 by omega) with rfl | rfl | rfl | rfl <;> simp [alTier, aN]
  · rcases (show t = 0 ∨ t = 1 ∨ t = 2 ∨ t = 3 by omega) with rfl | rfl | rfl | rfl <;> simp [alTier, e]
theorem ptC_congr {n : Nat} {O O' : Nat → Nat → Int} (h : ∀ r t, r < n → t < 4 → O r t = O' r t) : ptC n O = ptC n O' := by
  unfold ptC
  congr 1
  funext i
  rw [h _ _ (by omega) (by omega)]
theorem best_of {l : FrcL} (hok : FrcsOk l) {k b : Nat} (hk : k < l.length) (hb : b < l.length) (h1 : b ∉ (frcOrd l).take k) (h2 : ∀ j, j < l.length → j ∉ (frcOrd l).take k → j = b ∨ densB l b j = true) : b = (frcOrd l).getD k 0 := by
  have hp := frcOrd_perm hok
  have hlen := frcOrd_len l
  have hnod := frcOrd_nodup hok
  have hbm : b ∈ frcOrd l := hp.mem_iff.2 (List.mem_range.2 hb)
  obtain ⟨q, hq, eq⟩ := List.getElem_of_mem hbm
  have hqk : k ≤ q := by
    rcases Nat.lt_or_ge q k with h | h
    · exact absurd (by rw [← eq]; exact List.mem_iff_getElem.2 ⟨q, by rw [List.length_take]; omega, by rw [List.getElem_take]⟩) h1
    · exact h
  have hkl : k < (frcOrd l).length := by omega
  have hkn : (frcOrd l)[k] ∉ (frcOrd l).take k := fun hm => by
    obtain ⟨p, hp2, ep⟩ := List.getElem_of_mem hm
    rw [List.getElem_take] at ep
    have hpk : p < k := by rw [List.length_take] at hp2; omega
    exact List.pairwise_iff_getElem.1 hnod p k (by omega) hkl hpk ep
  have hgk : (frcOrd l).getD k 0 = (frcOrd l)[k] := by simp [hkl]
  rw [hgk]
  rcases Nat.lt_or_ge k q with h | h
  · have hs := frcOrd_sorted hok k q h (by omega)
    rw [hgk, show (frcOrd l).getD q 0 = b by simp [hq, eq]] at hs
    have hlt : (frcOrd l)[k] < l.length := frcOrd_lt l _ (List.getElem_mem _)
    rcases h2 _ hlt hkn with e | e
    · exact e.symm
    · exfalso
      unfold densB at hs e
      simp only [Bool.or_eq_true, Bool.and_eq_true, decide_eq_true_eq, frcCmp_neg] at hs e
      rcases hs with hs | hs <;> rcases e with e | e <;> omega
  · obtain rfl : q = k := by omega
    exact eq.symm
end Go.Proofs.YtodephhlhdbeoaaGreat
namespace Go.Proofs.YtodephhlhdbeoaaGreat
open Go.RowKit Go.ChangeShapes Go.WideShapes
set_option linter.unusedVariables false
set_option linter.unusedSimpArgs false
def RgRel (l : List HintA) (b : Int) (w : World) (i : Value) (wr : World) : Prop := ∃ k : Nat, k ≤ l.length ∧ i = .int .i64 k ∧ (∀ j, j < k → kIn (l.getD j default) b = false) ∧ ∃ m, w.drewN m = wr
section
set_option maxHeartbeats 4000000
set_option maxRecDepth 100000
theorem rcompare_any {a b c d : Int} (ha : 0 ≤ a ∧ a ≤ 2147483647) (hb : 0 ≤ b ∧ b ≤ 32) (hc : 0 ≤ c ∧ c ≤ 2147483647) (hd : 0 ≤ d ∧ d ≤ 32) (w : World) :
    Calls Tryz.prog 263 #[.int .i64 a, .int .i64 b, .int .i64 c, .int .i64 d] w fun e w' => e = .returned (.int .i64 (cmpZ (a * d) (c * b))) ∧ w = w' := by
  have h1 : 0 ≤ a * d := Int.mul_nonneg ha.1 hd.1
  have h2 : a * d ≤ 2147483647 * 32 := Int.mul_le_mul ha.2 hd.2 hd.1 (by omega)
  have h3 : 0 ≤ c * b := Int.mul_nonneg hc.1 hb.1
  have h4 : c * b ≤ 2147483647 * 32 := Int.mul_le_mul hc.2 hb.2 hb.1 (by omega)
  have e1 : wrap64 (a * d) = a * d := by unfold wrap64; omega
  have e2 : wrap64 (c * b) = c * b := by unfold wrap64; omega
  unfold cmpZ
  clear ha hb hc hd h1 h2 h3 h4
  by_cases c1 : a * d < c * b
  · rw [if_pos c1]
    go_enter Tryz.func263, Tryz.ntmps263
    go_wp2
    go_ret
    exact ⟨rfl, rfl⟩
  · rw [if_neg c1]
    by_cases c2 : c * b < a * d
    · rw [if_pos c2]
      go_enter Tryz.func263, Tryz.ntmps263
      go_wp2
      go_ret
      exact ⟨rfl, rfl⟩
    · rw [if_neg c2]
      go_enter Tryz.func263, Tryz.ntmps263
      go_wp2
      go_ret
      exact ⟨rfl, rfl⟩
theorem densB_cmp (l : FrcL) (i k : Nat) : densB l i k = (decide (0 < cmpZ ((l.getD i default).1 * (l.getD k default).2) ((l.getD k default).1 * (l.getD i default).2)) || (decide (cmpZ ((l.getD i default).1 * (l.getD k default).2) ((l.getD k default).1 * (l.getD i default).2) = 0) && decide (i < k))) := by
  rw [Bool.eq_iff_iff]
  unfold densB
  simp only [Bool.or_eq_true, Bool.and_eq_true, decide_eq_true_eq, frcCmp_neg]
  generalize (l.getD i default).1 * (l.getD k default).2 = x
  generalize (l.getD k default).1 * (l.getD i default).2 = y
  unfold cmpZ
  by_cases c1 : x < y
  · rw [if_pos c1]; simp; omega
  · rw [if_neg c1]
    by_cases c2 : y < x
    · rw [if_pos c2]; simp [c2]
    · rw [if_neg c2]; simp [c1, c2]
theorem denser_any {A : Option Addr} {n c : Nat} {blocks : Int} {l : List HintA} {i k : Nat} (w : World) (h : HintsAt w A n c l) (hP : hintsP blocks l) (hi : i < l.length) (hk : k < l.length) :
    Calls Tryz.prog 218 #[.slice A n c, .int .i64 i, .int .i64 k] w fun e w' => e = .returned (.bool (densB (hintFr l) i k)) ∧ ∃ m, w.drewN m = w' := by
  obtain rfl := h.len
  have o1 := hP.1 i hi
  have o2 := hP.1 k hk
  unfold okH at o1 o2
  rw [densB_cmp, hintFr_at l hi, hintFr_at l hk]
  dsimp only
  obtain ⟨g, o, rfl, hg, x0, x1, x2, x3⟩ := h.at_ i hi
  obtain ⟨g', o', e, hg', y0, y1, y2, y3⟩ := h.at_ k hk
  injection e with e; injection e with e1 e2
  subst e1 e2
  have hii : (i : Int) < l.length := by omega
  have hki : (k : Int) < l.length := by omega
  have hn8 := hP.2.2
  generalize (l.getD i default).often = a at *
  generalize (l.getD i default).size = b at *
  generalize (l.getD k default).often = cc at *
  generalize (l.getD k default).size = d at *
  have HC := Lib.hid (fun m => rcompare_any (a := a) (b := b) (c := cc) (d := d) (by omega) (by omega) (by omega) (by omega) (w.drewN m))
  generalize cmpZ (a * d) (cc * b) = z at *
  clear h hP o1 o2 x0 x3 y0 y3 hi hk hg'
  go_enter Tryz.func218, Tryz.ntmps218
  go_upto_region 1 with fail
  go_quiet ((go_at_call 263; exact quiet_l (HC.out _)))
  by_cases c1 : 0 < z
  · have c1b : decide (0 < z) = true := by simpa using c1
    go_wp2
    go_ret
    exact ⟨rfl, _, rfl⟩
  · have c1b : decide (0 < z) = false := by simpa using c1
    by_cases c2 : z = 0
    · subst c2
      by_cases c3 : i < k
      · have c3i : (i : Int) < k := by omega
        go_wp2
        go_ret
        exact ⟨by simp [c3], _, rfl⟩
      · have c3i : ¬ (i : Int) < k := by omega
        go_wp2
        go_ret
        exact ⟨by simp [c3], _, rfl⟩
    · have c2b : (z == 0) = false := by simpa using c2
      go_wp2
      go_ret
      exact ⟨by simp [c1, c2], _, rfl⟩
theorem rrange_any {A : Option Addr} {n c : Nat} {blocks : Int} {l : List HintA} (b : Int) (w : World) (h : HintsAt w A n c l) (hP : hintsP blocks l) (hb : 0 ≤ b ∧ b < 64) :
    Calls Tryz.prog 164 #[.slice A n c, .int .i64 b] w fun e w' => e = .returned (.int .i64 (rngZ l b)) ∧ ∃ m, w.drewN m = w' := by
  obtain rfl := h.len
  have H := Lib.hid h
  have HP := Lib.hid hP
  have hn8 := hP.2.2
  clear h hP
  go_enter Tryz.func164, Tryz.ntmps164
  go_upto_region 2 with fail
  go_loopw [5] (fun i wr => RgRel l b w i wr) (fun i _ => l.length - (intOf i).toNat)
  case atStart => exact ⟨0, Nat.zero_le _, rfl, fun j hj => absurd hj (by omega), 0, rfl⟩
  case round =>
    obtain ⟨k, hk, rfl, hno, m, rfl⟩ := hrel
    have HN := Lib.hid hno
    clear hno
    by_cases hlt : k < l.length
    · obtain ⟨g, o, rfl, hgl, x0, x1, x2, x3⟩ := H.out.at_ k hlt
      have hok := HP.out.1 k hlt
      unfold okH at hok
      have HKI := Lib.hid (show kIn (l.getD k default) b = (decide ((l.getD k default).fr ≤ b) && decide (b < (l.getD k default).fr + (l.getD k default).size)) from rfl)
      have hlti : (k : Int) < l.length := by omega
      have HLT := Lib.hid hlt
      have HFD := Lib.hid (show rngZ l b = if kIn (l.getD k default) b = true then (k : Int) else rngZ l b from by
        split
        · rename_i h1
          unfold rngZ; rw [rngI_at HLT.out h1 HN.out, if_pos HLT.out]
        · rfl)
      clear x2 x3 hk hlt
      generalize (l.getD k default).fr = fr at *
      generalize (l.getD k default).size = sz at *
      have ew : IntKind.i64.wrap (b - fr) = b - fr := by rw [IntKind.wrap_i64]; omega
      by_cases c1 : fr ≤ b
      · have c1b : decide (fr ≤ b) = true := by simpa using c1
        by_cases c2 : b - fr < sz
        · have c2b : decide (b - fr < sz) = true := by simpa using c2
          go_wp2_with fail
          go_quiet (fail)
          go_wp2
          go_ret
          refine ⟨?_, _, (World.drewN_drewN _ _ _).symm⟩
          rw [HFD.out, if_pos (by rw [HKI.out]; simp; omega)]
          rfl
        · have c2b : decide (b - fr < sz) = false := by simpa using c2
          have HN2 := Lib.hid (show ∀ j, j < k + 1 → kIn (l.getD j default) b = false from fun j hj => by
            by_cases e : j = k
            · rw [e, HKI.out]; simp; omega
            · exact HN.out j (by omega))
          go_wp2_with fail
          go_quiet (fail)
          go_wp2
          go_roundw
          case rel => exact ⟨k + 1, HLT.out, by go_num, HN2.out, _, rfl⟩
          case measure => simp [intOf]; have := HLT.out; omega
      · have c1b : decide (fr ≤ b) = false := by simpa using c1
        have HN2 := Lib.hid (show ∀ j, j < k + 1 → kIn (l.getD j default) b = false from fun j hj => by
          by_cases e : j = k
          · rw [e, HKI.out]; simp; omega
          · exact HN.out j (by omega))
        go_wp2_with fail
        go_quiet (fail)
        go_wp2
        go_roundw
        case rel => exact ⟨k + 1, HLT.out, by go_num, HN2.out, _, rfl⟩
        case measure => simp [intOf]; have := HLT.out; omega
    · obtain rfl : k = l.length := by omega
      clear hlt hk
      go_wp2
      go_ret
      exact ⟨by rw [show rngZ l b = -1 from by unfold rngZ; rw [rngI_end HN.out, if_neg (by omega)]]; rfl, _, rfl⟩
end
def dnC (n : Nat) (f : Nat → Bool) : Array Value := Array.ofFn (n := n) fun i => .bool (f i.1)
theorem dnC_at (n : Nat) (f : Nat → Bool) {i : Nat} (hi : i < n) : (dnC n f)[i]? = some (.bool (f i)) := by
  unfold dnC; rw [Array.getElem?_ofFn, dif_pos hi]
theorem dnC_set (n : Nat) (f : Nat → Bool) {i : Nat} (hi : i < n) (v : Bool) : (dnC n f).setIfInBounds i (.bool v) = dnC n (fun x => if x = i then v else f x) := by
  refine Array.ext (by simp [dnC]) fun j h1 h2 => ?_
  have hj : j < n := by simpa [dnC] using h2
  rw [Array.getElem_setIfInBounds (by simpa [dnC] using hj)]
  simp only [dnC, Array.getElem_ofFn]
  by_cases e : i = j
  · subst e; simp
  · rw [if_neg e, if_neg (fun h => e h.symm)]
def lf4 (f : Nat → Int) : List Value := [.int .i64 (f 0), .int .i64 (f 1), .int .i64 (f 2), .int .i64 (f 3)]
theorem lf4_at (f : Nat → Int) {t : Nat} (ht : t < 4) : (lf4 f)[t]? = some (.int .i64 (f t)) := by
  rcases (show t = 0 ∨ t = 1 ∨ t = 2 ∨ t = 3 by omega) with rfl | rfl | rfl | rfl <;> rfl
theorem lf4_set (f : Nat → Int) {t : Nat} (ht : t < 4) (v : Int) : (lf4 f).set t (.int .i64 v) = lf4 (fun x => if x = t then v else f x) := by
  rcases (show t = 0 ∨ t = 1 ∨ t = 2 ∨ t = 3 by omega) with rfl | rfl | rfl | rfl <;> simp [lf4]
theorem lf4_congr {f g : Nat → Int} (h : ∀ t, t < 4 → f t = g t) : lf4 f = lf4 g := by
  unfold lf4
  rw [h 0 (by omega), h 1 (by omega), h 2 (by omega), h 3 (by omega)]
theorem alPre_no {l : List HintA} {q : Nat → Int} {ord : List Nat} (hn : ord.Nodup) : ∀ k r, r ∉ ord.take k → ∀ t, t < 4 → (alPre l q ord k).o r t = 0
  | 0, r, _, t, _ => rfl
  | k + 1, r, hr, t, ht => by
    by_cases hk : k < ord.length
    · rw [alPre_succ l q ord hk, alRange_o l _ _ r ht]
      rw [List.take_succ_eq_append_getElem hk] at hr
      have h1 : r ∉ ord.take k := fun h => hr (List.mem_append.2 (.inl h))
      have h2 : r ≠ ord.getD k 0 := fun h => hr (List.mem_append.2 (.inr (by simp [h, hk])))
      rw [if_neg h2]
      exact alPre_no hn k r h1 t ht
    · have e : alPre l q ord (k + 1) = alPre l q ord k := by unfold alPre; rw [List.take_of_length_le (by omega), List.take_of_length_le (by omega)]
      rw [e]
      exact alPre_no hn k r (fun h => hr (by rw [List.take_of_length_le (by omega)] at h ⊢; exact h)) t ht
theorem densB_trans {l : FrcL} (hok : FrcsOk l) {i k j : Nat} (hi : i < l.length) (hk : k < l.length) (hj : j < l.length) (h1 : densB l i k = true) (h2 : densB l k j = true) : densB l i j = true := by
  cases h : l.length with
  | zero => omega
  | succ m => exact (densB_swo h hok).trans ⟨i, by omega⟩ ⟨k, by omega⟩ ⟨j, by omega⟩ h1 h2
theorem densB_total {l : FrcL} {i k : Nat} (hne : i ≠ k) (h : densB l i k = false) : densB l k i = true := by
  unfold densB at *
  simp only [Bool.or_eq_false_iff, Bool.and_eq_false_iff, decide_eq_false_iff_not, Bool.or_eq_true, Bool.and_eq_true, decide_eq_true_eq, frcCmp_neg] at *
  omega
def Ter (a b c : Nat) : Nat → Prop := fun k => k = a ∨ k = b ∨ k = c
structure Pq1 (l : List HintA) (q : Nat → Int) (lb lc db ob : Nat) (k : Nat) (z : Int) (w wr : World) : Prop where
  z0 : 1000 - 32 * (k : Int) ≤ z
  z1 : z ≤ 1000
  lf : wr.ownsRow 0 3 1 (.slice (some ⟨lb, 0, none⟩) 4 lc) 4 (lf4 fun t => if t < 3 then (alPre l q (frcOrd (hintFr l)) k).c t else z)
  dn : Box wr db 4 (dnC l.length fun j => decide (j ∈ (frcOrd (hintFr l)).take k))
  ot : Box wr ob 3 (ptC l.length (alPre l q (frcOrd (hintFr l)) k).o)
  o : Only (Ter lb db ob) w wr
def Pq1Rel (l : List HintA) (q : Nat → Int) (lb lc db ob : Nat) (w : World) (i : Value) (wr : World) : Prop := ∃ (k : Nat) (z : Int), k ≤ l.length ∧ i = .int .i64 k ∧ Pq1 l q lb lc db ob k z w wr
def Pq2Rel (l : List HintA) (k : Nat) (w : World) (bv i : Value) (wr : World) : Prop :=
  ∃ p : Nat, p ≤ l.length ∧ i = .int .i64 p ∧ ((bv = .int .i64 (-1) ∧ ∀ j, j < p → j ∈ (frcOrd (hintFr l)).take k) ∨
    ∃ b : Nat, bv = .int .i64 b ∧ b < p ∧ b ∉ (frcOrd (hintFr l)).take k ∧ ∀ j, j < p → j ∉ (frcOrd (hintFr l)).take k → j = b ∨ densB (hintFr l) b j = true) ∧ ∃ m, w.drewN m = wr
structure Pq3 (l : List HintA) (s : AlS) (b : Nat) (z : Int) (lb lc ob : Nat) (m : Nat) (w wr : World) : Prop where
  lf : wr.ownsRow 0 3 1 (.slice (some ⟨lb, 0, none⟩) 4 lc) 4 (lf4 fun t => (if t < 3 then s.c t else z) - aN s.c m t)
  ot : Box wr ob 3 (ptC l.length fun r t => if r = b then aN s.c m t else s.o r t)
  o : Only (Duo lb ob) w wr
def Pq3Rel (l : List HintA) (s : AlS) (b : Nat) (z : Int) (lb lc ob N : Nat) (w : World) (i : Value) (wr : World) : Prop := ∃ m : Nat, m ≤ N ∧ i = .int .i64 m ∧ Pq3 l s b z lb lc ob m w wr
def Pq4Rel (s : AlS) (m : Nat) (w : World) (i : Value) (wr : World) : Prop := ∃ t : Nat, t ≤ 3 ∧ i = .int .i64 t ∧ (∀ u, u < t → s.c u - aN s.c m u = 0) ∧ wr = w
def RPost (l : List HintA) (q : Nat → Int) (w : World) (e : Ending) (w' : World) : Prop :=
  ∃ ob, e = .returned (.slice (some ⟨ob, 0, none⟩) (l.length * 4) (l.length * 4)) ∧ Box w' ob 3 (ptC l.length (alcO l q)) ∧ w.heap.size ≤ ob ∧ Only Non w w'
theorem blInfo : (Tryz.prog.info? 4).map (fun i => (i.zero, i.size, i.bytes)) = some (some (.bool false), 1, 1) := by kernel_rfl
theorem made_pt (m : Nat) : madeCells (Value.int .i64 0).cells (m * 4 * 1) = ptC m (fun _ _ => 0) := by
  refine Array.ext (by simp [madeCells, ptC]) fun j h1 h2 => ?_
  simp [madeCells, ptC, Value.cells, Nat.mod_one]
theorem made_dn (m : Nat) : madeCells (Value.bool false).cells (m * 1) = dnC m (fun _ => false) := by
  refine Array.ext (by simp [madeCells, dnC]) fun j h1 h2 => ?_
  simp [madeCells, dnC, Value.cells, Nat.mod_one]
theorem run_make_pt (m : Nat) (hm : m ≤ 40) (w : World) : (Instr.makeSlice 43 (.int .i64 (4 * (m : Int))) (.int .i64 (4 * (m : Int)))).run Tryz.prog w = .ok (.slice (some ⟨w.heap.size, 0, none⟩) (m * 4) (m * 4)) (w.alloc (.cells (ptC m (fun _ _ => 0)) 3)) := by
  obtain ⟨i, hi, hz, hs, hb⟩ := info_parts intInfo
  have := run_make (P := Tryz.prog) w 43 3 i _ Tryz.underlying43 hi hz .i64 .i64 (4 * (m : Int)) (4 * (m : Int)) (by omega) (Int.le_refl _) (by rw [hb]; omega) (by omega)
  rw [hs, show (4 * (m : Int)).toNat = m * 4 by omega] at this
  rw [this, made_pt]
theorem run_make_dn (m : Nat) (hm : m ≤ 40) (w : World) : (Instr.makeSlice 117 (.int .i64 (m : Int)) (.int .i64 (m : Int))).run Tryz.prog w = .ok (.slice (some ⟨w.heap.size, 0, none⟩) m m) (w.alloc (.cells (dnC m (fun _ => false)) 4)) := by
  obtain ⟨i, hi, hz, hs, hb⟩ := info_parts blInfo
  have := run_make (P := Tryz.prog) w 117 4 i _ Tryz.underlying117 hi hz .i64 .i64 (m : Int) (m : Int) (by omega) (Int.le_refl _) (by rw [hb]; omega) (by omega)
  rw [hs, show ((m : Int)).toNat = m by omega] at this
  rw [this, made_dn]
section
set_option maxHeartbeats 4000000
set_option maxRecDepth 100000
theorem rparts_any {A : Option Addr} {n c : Nat} {blocks : Int} {l : List HintA} {q : Nat → Int} (w : World) (hin : HintsAt w A n c l) (hP : hintsP blocks l) (hq : ∀ t, t < 3 → 0 ≤ q t ∧ q t ≤ 16) :
    Calls Tryz.prog 161 #[.slice A n c, .agg (capC q)] w (RPost l q w) := by
  obtain rfl := hin.len
  have H := Lib.hid hin
  have HP := Lib.hid hP
  have HQ := Lib.hid hq
  have HOK := Lib.hid (hintFr_ok hP)
  have hn8 := hP.2.2
  have HN8 := Lib.hid hn8
  clear hin hP hq
  go_enter Tryz.func161, Tryz.ntmps161
  go_upto_region 1 with fail
  have HB := Lib.hid (Box.fresh w 22 (capC q))
  have HO := Lib.hid ((Only.refl Non w).alloc (.cells (capC q) 22))
  change Code.wp _ _ _ _ (w.alloc (.cells (capC q) 22))
  generalize w.alloc (.cells (capC q) 22) = W at *
  obtain ⟨cb, hcb⟩ : ∃ cb, cb = w.heap.size := ⟨_, rfl⟩
  rw [← hcb] at HB ⊢
  clear hcb
  have hmk := run_make_pt l.length (by omega) W
  go_upto_region 2 with fail
  have HO2 := Lib.hid (HO.out.alloc (.cells (ptC l.length (fun _ _ => 0)) 3))
  have HOB := Lib.hid (Box.fresh W 3 (ptC l.length (fun _ _ => 0)))
  have HB2 := Lib.hid (HB.out.alloc (.cells (ptC l.length (fun _ _ => 0)) 3))
  have HWS := Lib.hid (show w.heap.size ≤ W.heap.size from HO.out.size)
  change Code.wp _ _ _ _ (W.alloc (.cells (ptC l.length (fun _ _ => 0)) 3))
  generalize W.alloc (.cells (ptC l.length (fun _ _ => 0)) 3) = W2 at *
  generalize W.heap.size = ob at *
  clear hmk
  have hmk := run_make_dn l.length (by omega) W2
  go_upto_region 3 with fail
  have HO3 := Lib.hid (HO2.out.alloc (.cells (dnC l.length (fun _ => false)) 4))
  have HOB3 := Lib.hid (HOB.out.alloc (.cells (dnC l.length (fun _ => false)) 4))
  have HDB3 := Lib.hid (Box.fresh W2 4 (dnC l.length (fun _ => false)))
  have HB3 := Lib.hid (HB2.out.alloc (.cells (dnC l.length (fun _ => false)) 4))
  have HDO := Lib.hid (show ob < W2.heap.size from HOB.out.lt)
  change Code.wp _ _ _ _ (W2.alloc (.cells (dnC l.length (fun _ => false)) 4))
  generalize W2.alloc (.cells (dnC l.length (fun _ => false)) 4) = W3 at *
  generalize W2.heap.size = db at *
  clear hmk HB HB2 HO HO2 HOB
  have x0 : W3.cell? ⟨cb, 0, none⟩ = some (.int .i64 (q 0)) := HB3.out.cellAt rfl
  have x1 : W3.cell? ⟨cb, 1, none⟩ = some (.int .i64 (q 1)) := HB3.out.cellAt rfl
  have x2 : W3.cell? ⟨cb, 2, none⟩ = some (.int .i64 (q 2)) := HB3.out.cellAt rfl
  have HDL := Lib.hid (show db < W3.heap.size from HDB3.out.lt)
  obtain ⟨i0, hi0, hz0, hs0, hb0⟩ := info_parts intInfo
  have HI0 := Lib.hid hi0
  have HZ0 := Lib.hid hz0
  have HSS0 := Lib.hid hs0
  have HBB0 := Lib.hid hb0
  clear hi0 hz0 hs0 hb0
  have HCN := Lib.hid (cells_new W3 [.int .i64 (q 0), .int .i64 (q 1), .int .i64 (q 2), .int .i64 1000] 3)
  go_upto_region 5 with (at_builtin; refine wpList_append_own_at _ rfl (.tmp 20) (.tmp 27) 43 rfl W3.heap.size 3 i0 _ 1 8 Tryz.underlying43 HI0.out HZ0.out HSS0.out HBB0.out rfl (by decide) (.slice none 0 0) 0 [] rfl (World.ownsRow_nil _ _ _ _) ⟨W3.heap.size, 0, none⟩ 4 4 [.int .i64 (q 0), .int .i64 (q 1), .int .i64 (q 2), .int .i64 1000] rfl rfl HCN.out (by simp [Value.oneCell']) (by unfold maxLen; omega) (by omega) (by rw [World.size_alloc]; omega) ?_; intro v' w4 h2 h3 h4 h5; have H2 := Lib.hid h2; have H3 := Lib.hid h3; clear h2 h3 h4 h5)
  have ho4 : Only Non W3 w4 := ((Only.refl Non W3).alloc _).trans' ((Only.refl _ _).grown (S := Non) H3.out fun k hk => (by cases hk)) fun _ hb => hb.elim
  have h2 := H2.out
  rw [List.nil_append] at h2
  obtain ⟨lb, lc, rfl, hlb, hlb2, _⟩ := ownsRow_cell h2 (by omega)
  have HLF := Lib.hid (show w4.ownsRow 0 3 1 (.slice (some ⟨lb, 0, none⟩) 4 lc) 4 (lf4 fun t => if t < 3 then q t else 1000) from by
    rcases h2 with ⟨e1, ⟨e2, _⟩ | ⟨g, cap, cur, e2, e3, e4⟩⟩
    · cases e2
    · exact ⟨e1, .inr ⟨g, cap, cur, e2, Nat.zero_le _, e4⟩⟩)
  have HDN := Lib.hid (ho4.box HDB3.out id)
  have HOT := Lib.hid (ho4.box HOB3.out id)
  have HW4 := Lib.hid (HO3.out.trans ho4)
  have HNE := Lib.hid (show ob ≠ db ∧ lb ≠ ob ∧ lb ≠ db ∧ w.heap.size ≤ ob ∧ w.heap.size ≤ db ∧ w.heap.size ≤ lb from by
    have h1 := HWS.out; have h2 := HDO.out; have h3 := HDL.out
    exact ⟨by omega, by omega, by omega, by omega, by omega, by omega⟩)
  clear ho4 h2 hlb hlb2 H2 H3 HCN x0 x1 x2 HB3 HDB3 HOB3 HO3 HWS HDO HDL HI0 HZ0 HSS0 HBB0
  go_upto_region 6 with fail
  go_loopw [8] (fun i wr => Pq1Rel l q lb lc db ob w4 i wr) (fun i _ => l.length - (intOf i).toNat)
  case atStart => exact ⟨0, 1000, Nat.zero_le _, rfl, by omega, by omega, HLF.out, HDN.out, HOT.out, Only.refl _ _⟩
  case round =>
    clear HLF HDN HOT
    obtain ⟨k, z, hk, rfl, hI⟩ := hrel
    have HI := Lib.hid hI
    clear hI
    by_cases hlt : k < l.length
    · have hlti : (k : Int) < l.length := by omega
      have HLT := Lib.hid hlt
      clear hlt hk
      go_upto_region 10 with fail
      go_loopw [9, 10] (fun bv i wx => Pq2Rel l k wr bv i wx) (fun _ i _ => l.length - (intOf i).toNat)
      case atStart => exact ⟨0, Nat.zero_le _, rfl, .inl ⟨rfl, fun j hj => absurd hj (by omega)⟩, 0, rfl⟩
      case round =>
        obtain ⟨p, hp, rfl, hbv, m, rfl⟩ := hrel
        have HBV := Lib.hid hbv
        clear hbv
        by_cases hplt : p < l.length
        · have hpi : (p : Int) < l.length := by omega
          have HPL := Lib.hid hplt
          have xd : (wr.drewN m).cell? ⟨db, p, none⟩ = some (.bool (decide (p ∈ (frcOrd (hintFr l)).take k))) := (HI.out.dn.drewN m).cellAt (dnC_at _ _ hplt)
          clear hplt hp
          by_cases hdone : p ∈ (frcOrd (hintFr l)).take k
          · rw [decide_eq_true hdone] at xd
            have HDN := Lib.hid hdone
            clear hdone
            have HNX := Lib.hid (show Pq2Rel l k wr u9 (.int .i64 ((p : Int) + 1)) (wr.drewN m) from ⟨p + 1, HPL.out, by go_num, by
              rcases HBV.out with ⟨e, h⟩ | ⟨b, e, h1, h2, h3⟩
              · exact .inl ⟨e, fun j hj => by
                  by_cases e2 : j = p
                  · rw [e2]; exact HDN.out
                  · exact h j (by omega)⟩
              · exact .inr ⟨b, e, by omega, h2, fun j hj hj2 => by
                  by_cases e2 : j = p
                  · exact absurd (e2 ▸ HDN.out) hj2
                  · exact h3 j (by omega) hj2⟩, m, rfl⟩)
            go_wp2
            go_roundw
            case rel => exact HNX.out
            case measure => simp [intOf]; have := HPL.out; omega
          · rw [decide_eq_false hdone] at xd
            have HDN := Lib.hid hdone
            clear hdone
            rcases HBV.out with ⟨rfl, h⟩ | ⟨b, rfl, h1, h2, h3⟩
            · have HH := Lib.hid h
              clear h HBV
              go_wp2
              go_roundw
              case rel => exact ⟨p + 1, HPL.out, by go_num, .inr ⟨p, rfl, by omega, HDN.out, fun j hj hj2 => by
                by_cases e2 : j = p
                · exact .inl e2
                · exact absurd (HH.out j (by omega)) hj2⟩, m, rfl⟩
              case measure => simp [intOf]; have := HPL.out; omega
            · have hbl : b < l.length := by have := HPL.out; omega
              have HDE := Lib.hid (denser_any (i := p) (k := b) (wr.drewN m) ((H.out.keep HW4.out).far (HI.out.o.drewN m) fun h0 j hj hS => by
                have hh := H.out.at_ 0 h0
                obtain ⟨g, o, e, hg, _⟩ := hh
                rw [e] at hj
                have e2 := ownB_slice.1 hj
                have hne := HNE.out
                rcases hS with hS | hS | hS <;> omega) HP.out HPL.out hbl)
              have HB1 := Lib.hid h1
              have HB2 := Lib.hid h2
              have HB3 := Lib.hid h3
              have HBL := Lib.hid hbl
              have HPB := Lib.hid (show p ≠ b by omega)
              have hb0 : ¬ (b : Int) < 0 := by omega
              clear h1 h2 h3 hbl HBV
              cases hdb : densB (hintFr l) p b with
              | true =>
                rw [hdb] at HDE
                have HDB := Lib.hid hdb
                clear hdb
                go_wp2_with (go_at_call 218; refine HDE.out.mono ?_; rintro e W5 ⟨rfl, m2, rfl⟩)
                go_roundw
                case rel =>
                 iterate 24 apply Exists.intro
                 refine ⟨?_, rfl⟩
                 exact ⟨p + 1, HPL.out, by go_num, .inr ⟨p, rfl, by omega, HDN.out, fun j hj hj2 => by
                  by_cases e2 : j = p
                  · exact .inl e2
                  · refine .inr ?_
                    have hjl : j < (hintFr l).length := by rw [hintFr_len]; have := HPL.out; omega
                    rcases HB3.out j (by omega) hj2 with e3 | e3
                    · rw [e3]; exact HDB.out
                    · exact densB_trans HOK.out (by rw [hintFr_len]; exact HPL.out) (by rw [hintFr_len]; exact HBL.out) hjl HDB.out e3⟩, _, rfl⟩
                case measure => simp [intOf]; have := HPL.out; omega
              | false =>
                rw [hdb] at HDE
                have HDB := Lib.hid hdb
                clear hdb
                go_wp2_with (go_at_call 218; refine HDE.out.mono ?_; rintro e W5 ⟨rfl, m2, rfl⟩)
                go_roundw
                case rel =>
                 iterate 24 apply Exists.intro
                 refine ⟨?_, rfl⟩
                 exact ⟨p + 1, HPL.out, by go_num, .inr ⟨b, rfl, by have := HB1.out; omega, HB2.out, fun j hj hj2 => by
                  by_cases e2 : j = p
                  · rw [e2]; exact .inr (densB_total HPB.out HDB.out)
                  · exact HB3.out j (by omega) hj2⟩, _, rfl⟩
                case measure => simp [intOf]; have := HPL.out; omega
        · obtain rfl : p = l.length := by omega
          clear hplt hp
          have HBE : ∃ b : Nat, u9 = .int .i64 b ∧ b < l.length ∧ b = (frcOrd (hintFr l)).getD k 0 ∧ b ∉ (frcOrd (hintFr l)).take k := by
            have hlen := hintFr_len l
            rcases HBV.out with ⟨e, h⟩ | ⟨b, e, h1, h2, h3⟩
            · exfalso
              have hkl : k < (frcOrd (hintFr l)).length := by rw [frcOrd_len, hlen]; exact HLT.out
              have hx := h (frcOrd (hintFr l))[k] (by rw [← hlen]; exact frcOrd_lt _ _ (List.getElem_mem _))
              obtain ⟨r, hr, er⟩ := List.getElem_of_mem hx
              rw [List.getElem_take] at er
              have hrk : r < k := by rw [List.length_take] at hr; omega
              exact List.pairwise_iff_getElem.1 (frcOrd_nodup HOK.out) r k (by omega) hkl hrk er
            · exact ⟨b, e, h1, best_of HOK.out (by rw [hlen]; exact HLT.out) (by rw [hlen]; exact h1) h2 (fun j hj hj2 => h3 j (by rw [← hlen]; exact hj) hj2), h2⟩
          obtain ⟨b, rfl, hbl, hbe, hbn⟩ := HBE
          clear HBV
          go_upto_region 14 with fail
          have HDB4 := Lib.hid ((HI.out.dn.drewN m).store b (.bool true))
          have hdf := (HI.out.dn.drewN m).free b
          have hdc : (wr.drewN m).cell? ⟨db, b, none⟩ = some (.bool (decide (b ∈ (frcOrd (hintFr l)).take k))) := (HI.out.dn.drewN m).cellAt (dnC_at _ _ hbl)
          have hbi : (b : Int) < l.length := by omega
          have HBL := Lib.hid hbl
          have HBE := Lib.hid hbe
          have HBN := Lib.hid hbn
          have hne := HNE.out
          have HLF5 := Lib.hid (show ((wr.drewN m).setCell ⟨db, b, none⟩ (.bool true)).ownsRow 0 3 1 (.slice (some ⟨lb, 0, none⟩) 4 lc) 4 (lf4 fun t => if t < 3 then (alPre l q (frcOrd (hintFr l)) k).c t else z) from
            ownsRow_only (S := Just db) (show (wr.drewN m).ownsRow 0 3 1 (.slice (some ⟨lb, 0, none⟩) 4 lc) 4 _ from HI.out.lf) ((Only.refl (Just db) _).setCell (p := ⟨db, b, none⟩) (.inl (show Just db db from rfl)) _) fun g hg e => by
              have h1 := ownB_slice.1 hg
              have h2 : g = db := e
              omega)
          have HOT5 := Lib.hid ((HI.out.ot.drewN m).far (p := ⟨db, b, none⟩) hne.1 (.bool true))
          have HO5 := Lib.hid ((HI.out.o.drewN m).setCell (p := ⟨db, b, none⟩) (.inl (.inr (.inl rfl))) (.bool true))
          clear hbn hbe hbl hne
          go_upto_region 15 with fail
          change Code.wp _ _ _ _ ((wr.drewN m).setCell ⟨db, b, none⟩ (.bool true))
          clear hdf hdc
          generalize (wr.drewN m).setCell ⟨db, b, none⟩ (.bool true) = W5 at *
          have hh := (H.out.keep HW4.out).far HO5.out fun h0 j hj hS => by
            obtain ⟨g, o, e, hg, _⟩ := H.out.at_ 0 h0
            rw [e] at hj
            have e2 := ownB_slice.1 hj
            have hne := HNE.out
            rcases hS with hS | hS | hS <;> omega
          have HH5 := Lib.hid hh
          obtain ⟨g, o, rfl, hg, _, xs, _⟩ := hh.at_ b HBL.out
          have HGN := Lib.hid (show ¬ Duo lb ob g from fun hS => by
            obtain ⟨g', o', e, hg', _⟩ := H.out.at_ 0 (by have := HBL.out; omega)
            injection e with e; injection e with e
            have hne := HNE.out
            rcases hS with hS | hS <;> omega)
          have hok := HP.out.1 b HBL.out
          unfold okH at hok
          have HC3 := Lib.hid (alPre_ok HP.out HQ.out (fun x hx => by have := frcOrd_lt (hintFr l) x hx; rwa [hintFr_len] at this) k)
          have HZO := Lib.hid (alPre_no (q := q) (l := l) (frcOrd_nodup HOK.out) k b HBN.out)
          have HSU := Lib.hid (alPre_succ l q (frcOrd (hintFr l)) (k := k) (by rw [frcOrd_len, hintFr_len]; exact HLT.out))
          rw [← HBE.out] at HSU
          have HAC := Lib.hid (fun (t : Nat) (ht : t < 3) => alRange_c l (alPre l q (frcOrd (hintFr l)) k) b ht)
          have HAO := Lib.hid (fun (r t : Nat) (ht : t < 4) => alRange_o l (alPre l q (frcOrd (hintFr l)) k) b r ht)
          generalize hsz : (l.getD b default).size = sz at *
          have HZZ := Lib.hid (show 1000 - 32 * (k : Int) ≤ z ∧ z ≤ 1000 from ⟨HI.out.z0, HI.out.z1⟩)
          generalize hps : alPre l q (frcOrd (hintFr l)) k = s at *
          obtain ⟨N, rfl⟩ := Int.eq_ofNat_of_zero_le (show 0 ≤ sz by omega)
          have HN32 := Lib.hid (show N ≤ 32 by omega)
          have hn32 := HN32.out
          clear hh hok hsz hps hg HI
          go_upto_region 16 with fail
          go_loopw [11] (fun i wx => Pq3Rel l s b z lb lc ob N W5 i wx) (fun i _ => N - (intOf i).toNat)
          case atStart =>
            refine ⟨0, Nat.zero_le _, rfl, ?_, ?_, Only.refl _ _⟩
            · have h1 := HLF5.out
              rw [lf4_congr (fun t ht => by rw [show ((0 : Nat) : Int) = 0 from rfl, aN_zero (fun x hx => (HC3.out x hx).1) t ht]; omega) (g := fun t => if t < 3 then s.c t else z)]
              exact h1
            · have h1 := HOT5.out
              rw [ptC_congr (O' := s.o) (fun r t hr ht => by
                by_cases e : r = b
                · rw [if_pos e, e, show ((0 : Nat) : Int) = 0 from rfl, aN_zero (fun x hx => (HC3.out x hx).1) t ht, HZO.out t ht]
                · rw [if_neg e])]
              exact h1
          case round =>
            obtain ⟨m3, hm3, rfl, hI3⟩ := hrel
            have HI3 := Lib.hid hI3
            clear hI3
            have xs3 := HI3.out.o.cell xs HGN.out
            by_cases hml : m3 < N
            · have hmi : (m3 : Int) < N := by omega
              have HML := Lib.hid hml
              have HBD := Lib.hid (aN_bound (m := (m3 : Int)) (c := s.c) (by omega) (fun x hx => (HC3.out x hx).1))
              clear hml hm3
              go_upto_region 19 with fail
              go_loopw [12] (fun i wx => Pq4Rel s m3 wr i wx) (fun i _ => 3 - (intOf i).toNat)
              case atStart => exact ⟨0, by omega, rfl, fun u hu => absurd hu (by omega), rfl⟩
              case round =>
                obtain ⟨t, ht, rfl, hz, rfl⟩ := hrel
                have HZ := Lib.hid hz
                clear hz
                have xv := HI3.out.lf.cellAt t (by omega)
                rw [lf4_at _ (show t < 4 by omega)] at xv
                by_cases hv0 : (if t < 3 then s.c t else z) - aN s.c m3 t = 0
                · have ht3 : t < 3 := by
                    rcases Nat.lt_or_ge t 3 with h | h
                    · exact h
                    · exfalso
                      obtain rfl : t = 3 := by omega
                      rw [if_neg (by omega)] at hv0
                      have h1 := HBD.out.2.2.1
                      have h2 := HZZ.out
                      have := HLT.out
                      omega
                  have HZ2 := Lib.hid (show ∀ u, u < t + 1 → s.c u - aN s.c m3 u = 0 from fun u hu => by
                    by_cases e : u = t
                    · rw [e]; rw [if_pos ht3] at hv0; exact hv0
                    · exact HZ.out u (by omega))
                  rw [hv0] at xv
                  have hti : (t : Int) < 4 := by omega
                  have HT3 := Lib.hid ht3
                  clear hv0 ht3 ht
                  go_wp2
                  go_roundw
                  case rel => exact ⟨t + 1, HT3.out, by go_num, HZ2.out, rfl⟩
                  case measure => simp [intOf]; have := HT3.out; omega
                · have HSC := Lib.hid (aN_succ (m := (m3 : Int)) (c := s.c) (by omega) (fun x hx => (HC3.out x hx).1) (show t < 4 by omega) HZ.out (fun h3 => by rw [if_pos h3] at hv0; exact hv0))
                  have hti : (t : Int) < 4 := by omega
                  have HT3 := Lib.hid ht
                  have xf := HI3.out.lf.frozenAt t
                  have yv := HI3.out.ot.cellAt (ptC_at l.length (fun r t => if r = b then aN s.c m3 t else s.o r t) HBL.out (show t < 4 by omega))
                  rw [if_pos rfl] at yv
                  have yf := HI3.out.ot.free (b * 4 + t)
                  have hvb : 0 ≤ (if t < 3 then s.c t else z) ∧ (if t < 3 then s.c t else z) ≤ 1000 := by
                    split
                    · have := HC3.out t (by omega); omega
                    · have := HZZ.out; have := HLT.out; omega
                  have hab : 0 ≤ aN s.c m3 t ∧ aN s.c m3 t ≤ 32 := by
                    have h1 := HBD.out
                    refine ⟨?_, by have := h1.2.2.2 t (by omega); omega⟩
                    by_cases e : t < 3
                    · exact (h1.1 t e).1
                    · obtain rfl : t = 3 := by omega
                      exact h1.2.1
                  have eix : (4 * (b : Int) + (t : Int)).toNat = b * 4 + t := by omega
                  have hix : 4 * (b : Int) + (t : Int) < l.length * 4 := by have := HBL.out; omega
                  have hix0 : 0 ≤ 4 * (b : Int) + (t : Int) := by omega
                  have hne := HNE.out.2.1
                  have hne2 : ¬ ob = lb := fun e => hne e.symm
                  have HSB := Lib.hid (HI3.out.ot.store (b * 4 + t) (.int .i64 (aN s.c m3 t + 1)))
                  have HV0 := Lib.hid hv0
                  generalize hvv : (if t < 3 then s.c t else z) - aN s.c m3 t = v at *
                  generalize haa : aN s.c m3 t = av at *
                  have HVV := Lib.hid hvv
                  have HAA := Lib.hid haa
                  have hv1 : -32 ≤ v ∧ v ≤ 1000 := by omega
                  clear hvv haa ht
                  have hvb2 : (v == 0) = false := by simpa using hv0
                  clear hv0 hvb
                  go_wp2
                  go_roundw
                  case rel =>
                    refine ⟨m3 + 1, HML.out, by go_num, ?_, ?_, ?_⟩
                    · have h1 := (HI3.out.lf.stored t (.int .i64 (v - 1))).1
                      rw [lf4_set _ (show t < 4 by have := HT3.out; omega), lf4_congr (g := fun x => (if x < 3 then s.c x else z) - aN s.c ((m3 + 1 : Nat) : Int) x) (fun x hx => by
                        have h2 := HSC.out x hx
                        have h3 := HVV.out
                        have h4 := HAA.out
                        rw [show ((m3 + 1 : Nat) : Int) = (m3 : Int) + 1 by omega, h2]
                        by_cases e : x = t
                        · subst e
                          rw [if_pos rfl, if_pos rfl, h4]
                          omega
                        · rw [if_neg e, if_neg e]; omega)] at h1
                      exact ownsRow_only (S := Just ob) h1 ((Only.refl (Just ob) _).setCell (p := ⟨ob, b * 4 + t, none⟩) (.inl (show Just ob ob from rfl)) _) fun g hg e => by
                        have h5 := ownB_slice.1 hg
                        have h6 : g = ob := e
                        omega
                    · have h1 := (HI3.out.ot.far (p := ⟨lb, t, none⟩) hne2 (.int .i64 (v - 1))).store (b * 4 + t) (.int .i64 (av + 1))
                      rw [ptC_set l.length _ HBL.out (show t < 4 by have := HT3.out; omega), ptC_congr (O' := fun r x => if r = b then aN s.c ((m3 + 1 : Nat) : Int) x else s.o r x) (fun r x hr hx => by
                        have h2 := HSC.out x hx
                        rw [show ((m3 + 1 : Nat) : Int) = (m3 : Int) + 1 by omega, h2]
                        by_cases e : r = b
                        · rw [if_pos e, if_pos e]
                          by_cases e2 : x = t
                          · rw [if_pos ⟨e, e2⟩, if_pos e2, e2, HAA.out]
                          · rw [if_neg (fun h => e2 h.2), if_neg e2]; omega
                        · rw [if_neg (fun h => e h.1), if_neg e, if_neg e])] at h1
                      exact h1
                    · exact (HI3.out.o.setCell (p := ⟨lb, t, none⟩) (.inl (.inl rfl)) _).setCell (p := ⟨ob, b * 4 + t, none⟩) (.inl (.inr rfl)) _
                  case measure => simp [intOf]; have := HML.out; omega
            · obtain rfl : m3 = N := by omega
              clear hml hm3
              go_wp2
              go_roundw
              case rel =>
                have hbd := aN_bound (m := (m3 : Int)) (c := s.c) (by omega) (fun x hx => (HC3.out x hx).1)
                have hzz := HZZ.out
                refine ⟨k + 1, z - aN s.c m3 3, HLT.out, by go_num, ?_, ?_, ?_, ?_, ?_, ?_⟩
                · have := hbd.2.2.1; omega
                · have := hbd.2.1; omega
                · rw [HSU.out]
                  have h1 := HI3.out.lf
                  rw [lf4_congr (g := fun t => if t < 3 then (alRange l s b).c t else z - aN s.c m3 3) (fun t ht => by
                    by_cases e : t < 3
                    · rw [if_pos e, if_pos e, HAC.out t e]
                    · obtain rfl : t = 3 := by omega
                      rw [if_neg e, if_neg e])] at h1
                  exact h1
                · have h1 := HDB4.out
                  rw [dnC_set _ _ HBL.out] at h1
                  have hd : (dnC l.length fun x => if x = b then true else decide (x ∈ (frcOrd (hintFr l)).take k)) = dnC l.length fun x => decide (x ∈ (frcOrd (hintFr l)).take (k + 1)) := by
                    congr 1
                    funext x
                    rw [List.take_succ_eq_append_getElem (by rw [frcOrd_len, hintFr_len]; exact HLT.out)]
                    have hb : (frcOrd (hintFr l))[k]'(by rw [frcOrd_len, hintFr_len]; exact HLT.out) = b := by
                      rw [HBE.out]; simp [show k < (frcOrd (hintFr l)).length by rw [frcOrd_len, hintFr_len]; exact HLT.out]
                    rw [hb]
                    by_cases e : x = b
                    · rw [if_pos e]; simp [e]
                    · rw [if_neg e]; simp [e]
                  rw [hd] at h1
                  exact HI3.out.o.box h1 fun e => by
                    have hne := HNE.out
                    rcases e with e | e <;> omega
                · rw [HSU.out]
                  have h1 := HI3.out.ot
                  rw [ptC_congr (O' := (alRange l s b).o) (fun r t hr ht => (HAO.out r t ht).symm)] at h1
                  exact h1
                · exact HO5.out.trans' HI3.out.o fun j hj => .inl (by
                    rcases hj with e | e
                    · exact .inl e
                    · exact .inr (.inr e))
              case measure => simp [intOf]; have := HLT.out; omega
    · obtain rfl : k = l.length := by omega
      clear hlt hk
      go_wp2
      go_ret
      have hne := HNE.out
      refine ⟨ob, rfl, ?_, hne.2.2.2.1, HW4.out.trans' HI.out.o fun j hj => .inr (by rcases hj with e | e | e <;> omega)⟩
      have e : alPre l q (frcOrd (hintFr l)) l.length = alcOf l q (frcOrd (hintFr l)) := by
        unfold alPre alcOf
        rw [List.take_of_length_le (by rw [frcOrd_len, hintFr_len]; exact Nat.le_refl _)]
      have h1 := HI.out.ot
      rw [e] at h1
      exact h1
end
end Go.Proofs.YtodephhlhdbeoaaGreat
