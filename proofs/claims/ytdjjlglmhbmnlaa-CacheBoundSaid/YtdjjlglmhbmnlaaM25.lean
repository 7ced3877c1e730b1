/- Several texts, one behind the other: Pld Ple Cpn Cvl Cpa Cvw Cbw. -/
import Derived.Test.YtdjjlglmhbmnlaaM18
import Derived.Test.YtdjjlglmhbmnlaaM24
import Derived.Sort.LotA
import Derived.Test.YtdjjlglmhbmnlaaM17
/- karma: the order of ranges is a permutation; a kind of order for each configuration. -/
namespace Go.Proofs.Ytdjjlglmhbmnlaa
open Go.RowKit Go.ChangeShapes Go.WideShapes Go.Shelf
set_option linter.unusedVariables false
set_option linter.unusedSimpArgs false
theorem frcCmp_neg (l : FrcL) (i k : Nat) : frcCmp l i k < 0 ↔ (l.getD k default).1 * (l.getD i default).2 < (l.getD i default).1 * (l.getD k default).2 := by
  unfold frcCmp cmpZ
  split
  · simp_all
  · split <;> simp_all
theorem cross_trans {a b c d e f : Int} (hb : 0 < b) (hd : 0 < d) (hf : 0 < f) (h1 : c * b < a * d) (h2 : e * d < c * f) : e * b < a * f := by
  have h3 : e * d * b < c * f * b := Int.mul_lt_mul_of_pos_right h2 hb
  have h4 : c * b * f < a * d * f := Int.mul_lt_mul_of_pos_right h1 hf
  have h5 : c * f * b = c * b * f := by rw [Int.mul_assoc, Int.mul_comm f b, ← Int.mul_assoc]
  have h6 : (e * b) * d < (a * f) * d := by
    rw [show e * b * d = e * d * b by rw [Int.mul_assoc, Int.mul_comm b d, ← Int.mul_assoc], show a * f * d = a * d * f by rw [Int.mul_assoc, Int.mul_comm f d, ← Int.mul_assoc]]
    omega
  exact Int.lt_of_mul_lt_mul_right h6 (Int.le_of_lt hd)
theorem cross_ntrans {a b c d e f : Int} (hb : 0 < b) (hd : 0 < d) (hf : 0 < f) (h1 : a * d ≤ c * b) (h2 : c * f ≤ e * d) : a * f ≤ e * b := by
  have h3 : c * f * b ≤ e * d * b := Int.mul_le_mul_of_nonneg_right h2 (Int.le_of_lt hb)
  have h4 : a * d * f ≤ c * b * f := Int.mul_le_mul_of_nonneg_right h1 (Int.le_of_lt hf)
  have h5 : c * f * b = c * b * f := by rw [Int.mul_assoc, Int.mul_comm f b, ← Int.mul_assoc]
  have h6 : (a * f) * d ≤ (e * b) * d := by
    rw [show e * b * d = e * d * b by rw [Int.mul_assoc, Int.mul_comm b d, ← Int.mul_assoc], show a * f * d = a * d * f by rw [Int.mul_assoc, Int.mul_comm f d, ← Int.mul_assoc]]
    omega
  exact Int.le_of_mul_le_mul_right h6 hd
theorem frc_swo {l : FrcL} {m : Nat} (hm : l.length = m + 1) (hok : FrcsOk l) : Sort.SWO (ltOf fun (i k : Fin (m + 1)) => frcCmp l i.val k.val) where
  irrefl := fun x => by
    unfold ltOf
    rw [decide_eq_false]
    rw [frcCmp_neg]
    omega
  trans := fun x y z h1 h2 => by
    unfold ltOf at *
    rw [decide_eq_true_eq] at *
    rw [frcCmp_neg] at *
    exact cross_trans (hok _ (by omega)).b0 (hok y.val (by omega)).b0 (hok _ (by omega)).b0 h1 h2
  ntrans := fun x y z h1 h2 => by
    unfold ltOf at *
    rw [decide_eq_false_iff_not] at *
    rw [frcCmp_neg] at *
    have := cross_ntrans (hok x.val (by omega)).b0 (hok y.val (by omega)).b0 (hok z.val (by omega)).b0 (Int.not_lt.1 h1) (Int.not_lt.1 h2)
    omega
theorem frcOrd_perm {l : FrcL} (hok : FrcsOk l) : (frcOrd l).Perm (List.range l.length) := by
  cases h : l.length with
  | zero => rw [frcOrd_zero h]; exact List.Perm.nil
  | succ m =>
    rw [frcOrd_succ h]
    have hp := (Sort.insertionSort_holds (frc_swo h hok) (Array.ofFn fun i => i) 0 (m + 1) (Nat.zero_le _) (by simp)).1
    obtain ⟨h1, _, h3⟩ := hp
    generalize Sort.insertionSort (ltOf fun (i k : Fin (m + 1)) => frcCmp l i.val k.val) (Array.ofFn fun i => i) 0 (m + 1) = A at *
    have e1 : A.extract 0 (m + 1) = A := by
      apply Array.extract_eq_self_of_le
      rw [h1]; simp
    have e2 : (Array.ofFn (n := m + 1) fun i => i).extract 0 (m + 1) = Array.ofFn fun i => i := by
      apply Array.extract_eq_self_of_le
      simp
    rw [e1, e2] at h3
    refine (h3.map Fin.val).trans (List.Perm.of_eq ?_)
    apply List.ext_getElem
    · simp
    · intro i h5 h6
      simp only [List.getElem_map, Array.getElem_toList, Array.getElem_ofFn, List.getElem_range]
theorem frcOrd_nodup {l : FrcL} (hok : FrcsOk l) : (frcOrd l).Nodup := (frcOrd_perm hok).nodup_iff.2 List.nodup_range
theorem alc_ok {c : CfgA} (hP : CfgP c) : (∀ r x, 0 ≤ alcO c.h (capQ c) r x) ∧ ∀ x, x < 3 → colS (alcO c.h (capQ c)) x c.h.length ≤ capQ c x :=
  alc_sum hP.hs (fun x hx => by have := hP.pc x hx; show 0 ≤ c.f (9 + x); omega) (frcOrd_nodup (hintFr_ok hP.hs))
/-- the kind of order of a tier -/
def kOf (c : CfgA) (k : Nat) (hP : CfgP c) (hk : k < 3) : OKind :=
  if c.f 5 = 2 then partKc c k else if c.f (6 + k) = 2 then mqK (mqPc c k) (mqPc_ok hP hk) else lruK (c.f (9 + k)).toNat
theorem kOf_made {c : CfgA} {k : Nat} (hP : CfgP c) (hk : k < 3) : (kOf c k hP hk).Made c (k + 1) := by
  unfold kOf
  by_cases h1 : c.f 5 = 2
  · rw [if_pos h1]
    exact part_made hP hk h1 fun r _ => (alc_ok hP).1 r k
  · rw [if_neg h1]
    by_cases h2 : c.f (6 + k) = 2
    · rw [if_pos h2]
      exact mq_made hP hk h1 h2
    · rw [if_neg h2]
      exact lru_made hP hk h1 h2
end Go.Proofs.Ytdjjlglmhbmnlaa

/- cache.Takes, whatever the configuration; how many blocks there are at most, what goes. -/
namespace Go.Proofs.Ytdjjlglmhbmnlaa
open Go.RowKit Go.ChangeShapes Go.WideShapes
set_option linter.unusedVariables false
set_option linter.unusedSimpArgs false
theorem colS_len {O : Nat → Nat → Int} {t : Nat} {S : Nat → List Int} : ∀ n, (∀ r, r < n → ((S r).length : Int) ≤ O r t) → ((prtTo S n).length : Int) ≤ colS O t n
  | 0, _ => by simp [prtTo, colS]
  | n + 1, h => by
    rw [prtTo_succ, List.length_append]
    have h1 := colS_len n (fun r hr => h r (by omega))
    have h2 := h n (by omega)
    unfold colS
    omega
section
variable {c : CfgA} {k : Nat} {hP : CfgP c} {hk : k < 3}
theorem kOf_elim (P : OKind → Prop) (p1 : c.f 5 = 2 → P (partKc c k)) (p2 : c.f 5 ≠ 2 → c.f (6 + k) = 2 → P (mqK (mqPc c k) (mqPc_ok hP hk))) (p3 : c.f 5 ≠ 2 → c.f (6 + k) ≠ 2 → P (lruK (c.f (9 + k)).toNat)) : P (kOf c k hP hk) := by
  unfold kOf
  by_cases h1 : c.f 5 = 2
  · rw [if_pos h1]; exact p1 h1
  · rw [if_neg h1]
    by_cases h2 : c.f (6 + k) = 2
    · rw [if_pos h2]; exact p2 h1 h2
    · rw [if_neg h2]; exact p3 h1 h2
theorem kOf_cap {i : (kOf c k hP hk).ι} {s : (kOf c k hP hk).σ} {w : World} (h : (kOf c k hP hk).R i s w) : (((kOf c k hP hk).sp.all s).length : Int) ≤ c.f (9 + k) := by
  have hc := hP.pc k hk
  refine kOf_elim (hP := hP) (hk := hk) (fun K => ∀ (i : K.ι) (s : K.σ) (w : World), K.R i s w → ((K.sp.all s).length : Int) ≤ c.f (9 + k)) (fun h1 i s w h => ?_) (fun h1 h2 i s w h => ?_) (fun h1 h2 i s w h => ?_) i s w h
  · have h2 : PrtR (c.f 2) (capQ c) c.h (alcO c.h (capQ c)) k i s w := h
    have h3 := colS_len c.h.length h2.i.most
    have h4 := (alc_ok hP).2 k hk
    exact Int.le_trans h3 h4
  · have h3 : mqR i.1 i.2.1 i.2.2 (mqPc c k) s w := h
    have h4 := h3.2.len
    show ((mqAll (mqPc c k) s).length : Int) ≤ _
    have h5 : (mqPc c k).cap = (c.f (9 + k)).toNat := rfl
    omega
  · have h3 : lruR i.1 i.2.1 i.2.2 (c.f (9 + k)).toNat s w := h
    have h4 := h3.2
    show ((List.length (α := Int) s : Nat) : Int) ≤ _
    omega
theorem kOf_room (h0 : c.f 5 ≠ 2) {s : (kOf c k hP hk).σ} {b : Int} (h : ((kOf c k hP hk).sp.add s b).2.2 = true) : c.f (9 + k) ≤ (((kOf c k hP hk).sp.all s).length : Int) := by
  have hc := hP.pc k hk
  refine kOf_elim (hP := hP) (hk := hk) (fun K => ∀ (s : K.σ) (b : Int), (K.sp.add s b).2.2 = true → c.f (9 + k) ≤ ((K.sp.all s).length : Int)) (fun h1 => absurd h1 h0) (fun h1 h2 s b hg => ?_) (fun h1 h2 s b hg => ?_) s b h
  · have hg : (mqAdd (mqPc c k) s b).2.2 = true := hg
    show _ ≤ ((mqAll (mqPc c k) s).length : Int)
    have h5 : (mqPc c k).cap = (c.f (9 + k)).toNat := rfl
    unfold mqAdd at hg
    split at hg
    · cases hg
    · split at hg
      · omega
      · cases hg
  · have hg : (lruAdd (c.f (9 + k)).toNat s b).2.2 = true := hg
    show _ ≤ ((List.length (α := Int) s : Nat) : Int)
    unfold lruAdd at hg
    split at hg
    · cases hg
    · split at hg
      · cases hg
      · omega
theorem kOf_age0 : (kOf c k hP hk).sp.age (kOf c k hP hk).s0 = 0 :=
  kOf_elim (hP := hP) (hk := hk) (fun K => K.sp.age K.s0 = 0) (fun _ => rfl) (fun _ _ => rfl) (fun _ _ => rfl)
def takesB (c : CfgA) (k : Nat) (b level : Int) : Bool := decide (0 ≤ b) && decide (b < c.f 2) && (if c.f 5 = 2 then decide (0 < partV c.h (alcO c.h (capQ c)) b k) else (decide (c.f 5 ≠ 1) || decide (level = ((k + 1 : Nat) : Int))))
theorem takesB_sp {b level : Int} (h : takesB c k b level = true) : (kOf c k hP hk).sp.takes b := by
  unfold takesB at h
  simp only [Bool.and_eq_true] at h
  unfold kOf
  by_cases h1 : c.f 5 = 2
  · rw [if_pos h1]
    rw [if_pos h1] at h
    have h2 : 0 < partV c.h (alcO c.h (capQ c)) b k := of_decide_eq_true h.2
    exact h2
  · rw [if_neg h1]
    by_cases h2 : c.f (6 + k) = 2
    · rw [if_pos h2]; trivial
    · rw [if_neg h2]; trivial
end
section
set_option maxHeartbeats 4000000
set_option maxRecDepth 100000
theorem part_takes {c : CfgA} {k : Nat} {i : (partKc c k).ι} {w : World} {cb mb : Nat} {hv : Value} {s : (partKc c k).σ} {D : Int → Option Blk} (b level : Int) (h : CchB (partKc c k) i w cb mb c hv (k + 1) s D) (hp : c.f 5 = 2) :
    Calls Try.prog 18 #[.pointer (some ⟨cb, 0, none⟩), .int .i64 b, .int .i64 level] w fun e w' => e = .returned (.bool (decide (0 ≤ b) && decide (b < c.f 2) && decide (0 < partV c.h (alcO c.h (capQ c)) b k))) ∧ Only Non w w' := by
  have hx5 : w.cell? ⟨cb, 5, none⟩ = some (.int .i64 (c.f 5)) := h.box.cellAt (cch_f _ _ _ _ _ _ (by decide))
  rw [hp] at hx5
  have hx18 : w.cell? ⟨cb, 18, none⟩ = some (.iface 67 (.pointer (some ⟨PrtI.p i, 0, none⟩))) := h.box.cellAt (cch_o _ _ _ _ _ _)
  have HT := cch_there b h
  have hR : PrtR (c.f 2) (capQ c) c.h (alcO c.h (capQ c)) k i s w := h.ord
  have HP := prt_takes b w hR.b
  rw [hR.t] at HP
  have HP := Lib.hid HP
  generalize (decide (0 ≤ b) && decide (b < c.f 2)) = kk at *
  generalize (decide (0 < partV c.h (alcO c.h (capQ c)) b k)) = t at *
  have HT := Lib.hid HT
  clear h hR hp
  generalize PrtI.p i = p at *
  cases kk with
  | false =>
    go_enter Try.func18, Try.ntmps18
    go_wp2_with (go_at_call 25; refine HT.out.mono ?_; rintro e w1 ⟨rfl, rfl⟩)
    go_ret
    exact ⟨rfl, Only.refl _ _⟩
  | true =>
    have hta : ∀ w, (Instr.typeAssert (.iface 67 (.pointer (some ⟨p, 0, none⟩))) 60 67 true).run Try.prog w = .ok (.tuple #[.pointer (some ⟨p, 0, none⟩), .bool true]) w := fun w => by kernel_rfl
    go_enter Try.func18, Try.ntmps18
    go_wp2_with (first | (go_at_call 25; refine HT.out.mono ?_; rintro e w1 ⟨rfl, rfl⟩) | (go_at_call 26; refine HP.out.mono ?_; rintro e w1 ⟨rfl, ho1⟩))
    go_ret
    exact ⟨rfl, ho1.only⟩
theorem takes_any {c : CfgA} {k : Nat} {hP : CfgP c} {hk : k < 3} {i : (kOf c k hP hk).ι} {w : World} {cb mb : Nat} {hv : Value} {s : (kOf c k hP hk).σ} {D : Int → Option Blk} (b level : Int) (h : CchB (kOf c k hP hk) i w cb mb c hv (k + 1) s D) :
    Calls Try.prog 18 #[.pointer (some ⟨cb, 0, none⟩), .int .i64 b, .int .i64 level] w fun e w' => e = .returned (.bool (takesB c k b level)) ∧ Only Non w w' := by
  refine kOf_elim (hP := hP) (hk := hk) (fun K => ∀ (i : K.ι) (s : K.σ), CchB K i w cb mb c hv (k + 1) s D → Calls Try.prog 18 #[.pointer (some ⟨cb, 0, none⟩), .int .i64 b, .int .i64 level] w fun e w' => e = .returned (.bool (takesB c k b level)) ∧ Only Non w w') (fun h1 i s h => ?_) (fun h1 h2 i s h => ?_) (fun h1 h2 i s h => ?_) i s h
  · unfold takesB
    rw [if_pos h1]
    exact part_takes b level h h1
  · refine (cch_takes b level h h1).mono fun e w' ⟨h2, h3⟩ => ⟨?_, h3 ▸ Only.refl _ _⟩
    rw [h2]; unfold takesB; rw [if_neg h1]; rfl
  · refine (cch_takes b level h h1).mono fun e w' ⟨h2, h3⟩ => ⟨?_, h3 ▸ Only.refl _ _⟩
    rw [h2]; unfold takesB; rw [if_neg h1]; rfl
end
end Go.Proofs.Ytdjjlglmhbmnlaa

/- cache.Cache.Put's refusals. -/
namespace Go.Proofs.Ytdjjlglmhbmnlaa
open Go.RowKit Go.ChangeShapes Go.WideShapes
set_option linter.unusedVariables false
set_option linter.unusedSimpArgs false
section
set_option maxHeartbeats 4000000
set_option maxRecDepth 100000
theorem put_there {KO : OKind} {i : KO.ι} {w : World} {cb mb : Nat} {c : CfgA} {hv : Value} {tier : Nat} {s : KO.σ} {D : Int → Option Blk} (h : CchB KO i w cb mb c hv tier s D)
    {b : Int} {dl : List Int} {dv : Value} (hby : Byt w dv dl) (hb0 : (decide (0 ≤ b) && decide (b < c.f 2)) = false) (level : Int) :
    Calls Try.prog 11 #[.pointer (some ⟨cb, 0, none⟩), .agg #[.int .i64 b, dv], .int .i64 level] w fun e w' => e = .returned (.tuple #[.agg zF, .bool false, .int .i64 9]) ∧ Only Non w w' := by
  obtain ⟨dA, dc, rfl, hdc, hdm, hsrc⟩ := id hby
  have HTH := fun W (hC : CchB KO i W cb mb c hv tier s D) => cch_there b hC
  rw [hb0] at HTH
  have HTH := Lib.hid HTH
  have H := Lib.hid h
  have hb1 := (Box.fresh w 36 #[.int .i64 b, .slice dA dl.length dc]).alloc (.cells zF 36)
  have hb2 := Box.fresh (w.alloc (.cells #[.int .i64 b, .slice dA dl.length dc] 36)) 36 zF
  rw [World.size_alloc] at hb2
  have HF1 := Lib.hid hb1
  have HV1 := Lib.hid hb2
  have HO1 := Lib.hid (((Only.refl Non w).alloc (.cells #[.int .i64 b, .slice dA dl.length dc] 36)).alloc (.cells zF 36))
  have H1 := Lib.hid (H.out.keep HO1.out)
  clear h hby hsrc hb1 hb2 hdc hdm
  go_enter Try.func11, Try.ntmps11
  go_upto_region 1 with fail
  change Code.wp _ _ _ _ ((w.alloc (.cells #[.int .i64 b, .slice dA dl.length dc] 36)).alloc (.cells zF 36))
  generalize (w.alloc (.cells #[.int .i64 b, .slice dA dl.length dc] 36)).alloc (.cells zF 36) = W1 at *
  obtain ⟨fb, hfb⟩ : ∃ fb, fb = w.heap.size := ⟨_, rfl⟩
  obtain ⟨rb, hrb⟩ : ∃ rb, rb = w.heap.size + 1 := ⟨_, rfl⟩
  have HSZ := Lib.hid (show w.heap.size ≤ rb by omega)
  rw [← hrb] at HV1
  rw [← hfb] at HF1
  rw [← hrb, ← hfb]
  clear hfb hrb
  have f0 : W1.cell? ⟨fb, 0, none⟩ = some (.int .i64 b) := HF1.out.cellAt rfl
  go_wp2_with (first | (go_at_call 25; refine (HTH.out W1 H1.out).mono ?_; rintro e W ⟨rfl, rfl⟩) | (refine wpList_store_row rfl 36 _ _ rfl rb zF rfl rfl 36 _ HV1.out (by kernel_rfl) rfl (by simp [zF, Value.oneCell']) ?_))
  (try simp only [Exit.inBlock, Exit.then])
  refine bodyPost_ret (results_ctt rfl _ _ rb _ zF (0, 0) _ rfl (HV1.out.setRow' _) Try.underlying36 rfl (by kernel_rfl)) rfl ?_
  exact ⟨rfl, HO1.out.setRow' (.inr HSZ.out) _⟩
theorem put_size {KO : OKind} {i : KO.ι} {w : World} {cb mb : Nat} {c : CfgA} {hv : Value} {tier : Nat} {s : KO.σ} {D : Int → Option Blk} (h : CchB KO i w cb mb c hv tier s D)
    {b : Int} {dl : List Int} {dv : Value} (hby : Byt w dv dl) (hb0 : (decide (0 ≤ b) && decide (b < c.f 2)) = true) (hl : (dl.length : Int) ≠ c.f 3) (level : Int) :
    Calls Try.prog 11 #[.pointer (some ⟨cb, 0, none⟩), .agg #[.int .i64 b, dv], .int .i64 level] w fun e w' => e = .returned (.tuple #[.agg zF, .bool false, .int .i64 10]) ∧ Only Non w w' := by
  obtain ⟨dA, dc, rfl, hdc, hdm, hsrc⟩ := id hby
  have HTH := fun W (hC : CchB KO i W cb mb c hv tier s D) => cch_there b hC
  rw [hb0] at HTH
  have HTH := Lib.hid HTH
  generalize hz : c.f 3 = sz at *
  have HZ := Lib.hid hz
  clear hz
  have hne : ((dl.length : Int) != sz) = true := by simpa using hl
  clear hl
  have H := Lib.hid h
  have hb1 := (Box.fresh w 36 #[.int .i64 b, .slice dA dl.length dc]).alloc (.cells zF 36)
  have hb2 := Box.fresh (w.alloc (.cells #[.int .i64 b, .slice dA dl.length dc] 36)) 36 zF
  rw [World.size_alloc] at hb2
  have HF1 := Lib.hid hb1
  have HV1 := Lib.hid hb2
  have HO1 := Lib.hid (((Only.refl Non w).alloc (.cells #[.int .i64 b, .slice dA dl.length dc] 36)).alloc (.cells zF 36))
  have H1 := Lib.hid (H.out.keep HO1.out)
  clear h hby hsrc hb1 hb2 hdc hdm
  go_enter Try.func11, Try.ntmps11
  go_upto_region 1 with fail
  change Code.wp _ _ _ _ ((w.alloc (.cells #[.int .i64 b, .slice dA dl.length dc] 36)).alloc (.cells zF 36))
  generalize (w.alloc (.cells #[.int .i64 b, .slice dA dl.length dc] 36)).alloc (.cells zF 36) = W1 at *
  obtain ⟨fb, hfb⟩ : ∃ fb, fb = w.heap.size := ⟨_, rfl⟩
  obtain ⟨rb, hrb⟩ : ∃ rb, rb = w.heap.size + 1 := ⟨_, rfl⟩
  have HSZ := Lib.hid (show w.heap.size ≤ rb by omega)
  rw [← hrb] at HV1
  rw [← hfb] at HF1
  rw [← hrb, ← hfb]
  clear hfb hrb
  have f0 : W1.cell? ⟨fb, 0, none⟩ = some (.int .i64 b) := HF1.out.cellAt rfl
  have f1 : W1.cell? ⟨fb, 1, none⟩ = some (.slice dA dl.length dc) := HF1.out.cellAt rfl
  have s3 : W1.cell? ⟨cb, 3, none⟩ = some (.int .i64 sz) := by rw [← HZ.out]; exact H1.out.box.cellAt (cch_f _ _ _ _ _ _ (by decide))
  go_upto_region 5 with (go_at_call 25; refine (HTH.out W1 H1.out).mono ?_; rintro e W ⟨rfl, rfl⟩)
  refine wp_region_tail (S := (fun w' : World => w' = W1.drew)) 9 (by kernel_rfl) (by kernel_rfl) ?_ ?_
  · rfl
  intro hSS
  refine wpHd_take (i := 0) (v := ?_) (by kernel_rfl) rfl (by kernel_rfl) (fun _ _ _ h => h) (Or.inl ⟨by rfl, ?_⟩) (by assumption) ?_
  rotate_left
  · intro w hSw; (try dsimp only at hSw); go_simp; (try with_reducible rfl)
  try simp only [Act.put, List.getElem_toArray, List.getElem_cons_succ, List.getElem_cons_zero, List.setIfInBounds_toArray, List.set_cons_zero, List.set_cons_succ]
  refine wpHd_take (i := 1) (v := ?_) (by kernel_rfl) rfl (by kernel_rfl) (fun _ _ _ h => h) (Or.inl ⟨by rfl, ?_⟩) (by assumption) ?_
  rotate_left
  · intro w hSw; (try dsimp only at hSw); go_simp; (try with_reducible rfl)
  try simp only [Act.put, List.getElem_toArray, List.getElem_cons_succ, List.getElem_cons_zero, List.setIfInBounds_toArray, List.set_cons_zero, List.set_cons_succ]
  refine wpHd_take (i := 2) (v := ?_) (by kernel_rfl) rfl (by kernel_rfl) (fun _ _ _ h => h) (Or.inl ⟨by rfl, ?_⟩) (by assumption) ?_
  rotate_left
  · intro w hSw; (try dsimp only at hSw); go_simp; (try with_reducible rfl)
  try simp only [Act.put, List.getElem_toArray, List.getElem_cons_succ, List.getElem_cons_zero, List.setIfInBounds_toArray, List.set_cons_zero, List.set_cons_succ]
  refine wpHd_take (i := 3) (v := ?_) (by kernel_rfl) rfl (by kernel_rfl) (fun _ _ _ h => h) (Or.inl ⟨by rfl, ?_⟩) (by assumption) ?_
  rotate_left
  · intro w hSw; (try dsimp only at hSw); go_simp; (try with_reducible rfl)
  try simp only [Act.put, List.getElem_toArray, List.getElem_cons_succ, List.getElem_cons_zero, List.setIfInBounds_toArray, List.set_cons_zero, List.set_cons_succ]
  refine wpHd_take (i := 4) (v := ?_) (by kernel_rfl) rfl (by kernel_rfl) (fun _ _ _ h => h) (Or.inl ⟨by rfl, ?_⟩) (by assumption) ?_
  rotate_left
  · intro w hSw; (try dsimp only at hSw); go_simp; (try with_reducible rfl)
  try simp only [Act.put, List.getElem_toArray, List.getElem_cons_succ, List.getElem_cons_zero, List.setIfInBounds_toArray, List.set_cons_zero, List.set_cons_succ]
  refine wpHd_take (i := 5) (v := ?_) (by kernel_rfl) rfl (by kernel_rfl) (fun _ _ _ h => h) (Or.inl ⟨by rfl, ?_⟩) (by assumption) ?_
  rotate_left
  · intro w hSw; (try dsimp only at hSw); go_simp; (try with_reducible rfl)
  try simp only [Act.put, List.getElem_toArray, List.getElem_cons_succ, List.getElem_cons_zero, List.setIfInBounds_toArray, List.set_cons_zero, List.set_cons_succ]
  refine wpHd_take (i := 6) (v := ?_) (by kernel_rfl) rfl (by kernel_rfl) (fun _ _ _ h => h) (Or.inl ⟨by rfl, ?_⟩) (by assumption) ?_
  rotate_left
  · intro w hSw; (try dsimp only at hSw); go_simp; (try with_reducible rfl)
  try simp only [Act.put, List.getElem_toArray, List.getElem_cons_succ, List.getElem_cons_zero, List.setIfInBounds_toArray, List.set_cons_zero, List.set_cons_succ]
  refine wpHd_take (i := 7) (v := ?_) (by kernel_rfl) rfl (by kernel_rfl) (fun _ _ _ h => h) (Or.inl ⟨by rfl, ?_⟩) (by assumption) ?_
  rotate_left
  · intro w hSw; (try dsimp only at hSw); go_simp; (try with_reducible rfl)
  try simp only [Act.put, List.getElem_toArray, List.getElem_cons_succ, List.getElem_cons_zero, List.setIfInBounds_toArray, List.set_cons_zero, List.set_cons_succ]
  refine wpHd_take (i := 8) (v := ?_) (by kernel_rfl) rfl (by kernel_rfl) (fun _ _ _ h => h) (Or.inl ⟨by rfl, ?_⟩) (by assumption) ?_
  rotate_left
  · intro w hSw; (try dsimp only at hSw); go_simp; (try with_reducible rfl)
  try simp only [Act.put, List.getElem_toArray, List.getElem_cons_succ, List.getElem_cons_zero, List.setIfInBounds_toArray, List.set_cons_zero, List.set_cons_succ]
  refine wpHd_end (by kernel_rfl) ?_
  clear hSS HTH
  have HF2 := Lib.hid (show Box W1.drew fb 36 #[.int .i64 b, .slice dA dl.length dc] from HF1.out)
  have HV2 := Lib.hid (show Box W1.drew rb 36 zF from HV1.out)
  have HO2 := Lib.hid HO1.out.drew
  have H2 := Lib.hid (show CchB KO i W1.drew cb mb c hv tier s D from H1.out.keep ((Only.refl Non W1).drew))
  clear f0 f1 s3 H1 HF1 HV1 HO1
  generalize W1.drew = W2 at *
  go_wp2_with (refine wpList_store_row rfl 36 _ _ rfl rb zF rfl rfl 36 _ HV2.out (by kernel_rfl) rfl (by simp [zF, Value.oneCell']) ?_)
  (try simp only [Exit.inBlock, Exit.then])
  refine bodyPost_ret (results_ctt rfl _ _ rb _ zF (0, 0) _ rfl (HV2.out.setRow' _) Try.underlying36 rfl (by kernel_rfl)) rfl ?_
  exact ⟨rfl, HO2.out.setRow' (.inr HSZ.out) _⟩
theorem put_takes {KO : OKind} {i : KO.ι} {w : World} {cb mb : Nat} {c : CfgA} {hv : Value} {tier : Nat} {s : KO.σ} {D : Int → Option Blk} (h : CchB KO i w cb mb c hv tier s D)
    {b : Int} {dl : List Int} {dv : Value} (hby : Byt w dv dl) (hb0 : (decide (0 ≤ b) && decide (b < c.f 2)) = true) (hl : (dl.length : Int) = c.f 3) (level : Int)
    (HT : ∀ w', CchB KO i w' cb mb c hv tier s D → Calls Try.prog 18 #[.pointer (some ⟨cb, 0, none⟩), .int .i64 b, .int .i64 level] w' fun e w'' => e = .returned (.bool false) ∧ Only Non w' w'') :
    Calls Try.prog 11 #[.pointer (some ⟨cb, 0, none⟩), .agg #[.int .i64 b, dv], .int .i64 level] w fun e w' => e = .returned (.tuple #[.agg zF, .bool false, .int .i64 5]) ∧ Only Non w w' := by
  obtain ⟨dA, dc, rfl, hdc, hdm, hsrc⟩ := id hby
  have HTH := fun W (hC : CchB KO i W cb mb c hv tier s D) => cch_there b hC
  rw [hb0] at HTH
  have HTH := Lib.hid HTH
  generalize hz : c.f 3 = sz at *
  have HZ := Lib.hid hz
  clear hz
  have HTK := Lib.hid HT
  clear HT
  have hne : ((dl.length : Int) != sz) = false := by simpa using hl
  clear hl
  have H := Lib.hid h
  have hb1 := (Box.fresh w 36 #[.int .i64 b, .slice dA dl.length dc]).alloc (.cells zF 36)
  have hb2 := Box.fresh (w.alloc (.cells #[.int .i64 b, .slice dA dl.length dc] 36)) 36 zF
  rw [World.size_alloc] at hb2
  have HF1 := Lib.hid hb1
  have HV1 := Lib.hid hb2
  have HO1 := Lib.hid (((Only.refl Non w).alloc (.cells #[.int .i64 b, .slice dA dl.length dc] 36)).alloc (.cells zF 36))
  have H1 := Lib.hid (H.out.keep HO1.out)
  clear h hby hsrc hb1 hb2 hdc hdm
  go_enter Try.func11, Try.ntmps11
  go_upto_region 1 with fail
  change Code.wp _ _ _ _ ((w.alloc (.cells #[.int .i64 b, .slice dA dl.length dc] 36)).alloc (.cells zF 36))
  generalize (w.alloc (.cells #[.int .i64 b, .slice dA dl.length dc] 36)).alloc (.cells zF 36) = W1 at *
  obtain ⟨fb, hfb⟩ : ∃ fb, fb = w.heap.size := ⟨_, rfl⟩
  obtain ⟨rb, hrb⟩ : ∃ rb, rb = w.heap.size + 1 := ⟨_, rfl⟩
  have HSZ := Lib.hid (show w.heap.size ≤ rb by omega)
  rw [← hrb] at HV1
  rw [← hfb] at HF1
  rw [← hrb, ← hfb]
  clear hfb hrb
  have f0 : W1.cell? ⟨fb, 0, none⟩ = some (.int .i64 b) := HF1.out.cellAt rfl
  have f1 : W1.cell? ⟨fb, 1, none⟩ = some (.slice dA dl.length dc) := HF1.out.cellAt rfl
  have s3 : W1.cell? ⟨cb, 3, none⟩ = some (.int .i64 sz) := by rw [← HZ.out]; exact H1.out.box.cellAt (cch_f _ _ _ _ _ _ (by decide))
  go_upto_region 5 with (go_at_call 25; refine (HTH.out W1 H1.out).mono ?_; rintro e W ⟨rfl, rfl⟩)
  refine wp_region_tail (S := (fun w' : World => w' = W1.drew)) 9 (by kernel_rfl) (by kernel_rfl) ?_ ?_
  · rfl
  intro hSS
  refine wpHd_take (i := 0) (v := ?_) (by kernel_rfl) rfl (by kernel_rfl) (fun _ _ _ h => h) (Or.inl ⟨by rfl, ?_⟩) (by assumption) ?_
  rotate_left
  · intro w hSw; (try dsimp only at hSw); go_simp; (try with_reducible rfl)
  try simp only [Act.put, List.getElem_toArray, List.getElem_cons_succ, List.getElem_cons_zero, List.setIfInBounds_toArray, List.set_cons_zero, List.set_cons_succ]
  refine wpHd_take (i := 1) (v := ?_) (by kernel_rfl) rfl (by kernel_rfl) (fun _ _ _ h => h) (Or.inl ⟨by rfl, ?_⟩) (by assumption) ?_
  rotate_left
  · intro w hSw; (try dsimp only at hSw); go_simp; (try with_reducible rfl)
  try simp only [Act.put, List.getElem_toArray, List.getElem_cons_succ, List.getElem_cons_zero, List.setIfInBounds_toArray, List.set_cons_zero, List.set_cons_succ]
  refine wpHd_take (i := 2) (v := ?_) (by kernel_rfl) rfl (by kernel_rfl) (fun _ _ _ h => h) (Or.inl ⟨by rfl, ?_⟩) (by assumption) ?_
  rotate_left
  · intro w hSw; (try dsimp only at hSw); go_simp; (try with_reducible rfl)
  try simp only [Act.put, List.getElem_toArray, List.getElem_cons_succ, List.getElem_cons_zero, List.setIfInBounds_toArray, List.set_cons_zero, List.set_cons_succ]
  refine wpHd_take (i := 3) (v := ?_) (by kernel_rfl) rfl (by kernel_rfl) (fun _ _ _ h => h) (Or.inl ⟨by rfl, ?_⟩) (by assumption) ?_
  rotate_left
  · intro w hSw; (try dsimp only at hSw); go_simp; (try with_reducible rfl)
  try simp only [Act.put, List.getElem_toArray, List.getElem_cons_succ, List.getElem_cons_zero, List.setIfInBounds_toArray, List.set_cons_zero, List.set_cons_succ]
  refine wpHd_take (i := 4) (v := ?_) (by kernel_rfl) rfl (by kernel_rfl) (fun _ _ _ h => h) (Or.inl ⟨by rfl, ?_⟩) (by assumption) ?_
  rotate_left
  · intro w hSw; (try dsimp only at hSw); go_simp; (try with_reducible rfl)
  try simp only [Act.put, List.getElem_toArray, List.getElem_cons_succ, List.getElem_cons_zero, List.setIfInBounds_toArray, List.set_cons_zero, List.set_cons_succ]
  refine wpHd_take (i := 5) (v := ?_) (by kernel_rfl) rfl (by kernel_rfl) (fun _ _ _ h => h) (Or.inl ⟨by rfl, ?_⟩) (by assumption) ?_
  rotate_left
  · intro w hSw; (try dsimp only at hSw); go_simp; (try with_reducible rfl)
  try simp only [Act.put, List.getElem_toArray, List.getElem_cons_succ, List.getElem_cons_zero, List.setIfInBounds_toArray, List.set_cons_zero, List.set_cons_succ]
  refine wpHd_take (i := 6) (v := ?_) (by kernel_rfl) rfl (by kernel_rfl) (fun _ _ _ h => h) (Or.inl ⟨by rfl, ?_⟩) (by assumption) ?_
  rotate_left
  · intro w hSw; (try dsimp only at hSw); go_simp; (try with_reducible rfl)
  try simp only [Act.put, List.getElem_toArray, List.getElem_cons_succ, List.getElem_cons_zero, List.setIfInBounds_toArray, List.set_cons_zero, List.set_cons_succ]
  refine wpHd_take (i := 7) (v := ?_) (by kernel_rfl) rfl (by kernel_rfl) (fun _ _ _ h => h) (Or.inl ⟨by rfl, ?_⟩) (by assumption) ?_
  rotate_left
  · intro w hSw; (try dsimp only at hSw); go_simp; (try with_reducible rfl)
  try simp only [Act.put, List.getElem_toArray, List.getElem_cons_succ, List.getElem_cons_zero, List.setIfInBounds_toArray, List.set_cons_zero, List.set_cons_succ]
  refine wpHd_take (i := 8) (v := ?_) (by kernel_rfl) rfl (by kernel_rfl) (fun _ _ _ h => h) (Or.inl ⟨by rfl, ?_⟩) (by assumption) ?_
  rotate_left
  · intro w hSw; (try dsimp only at hSw); go_simp; (try with_reducible rfl)
  try simp only [Act.put, List.getElem_toArray, List.getElem_cons_succ, List.getElem_cons_zero, List.setIfInBounds_toArray, List.set_cons_zero, List.set_cons_succ]
  refine wpHd_end (by kernel_rfl) ?_
  clear hSS HTH
  go_upto_region 7 with fail
  have HF2 := Lib.hid (show Box W1.drew fb 36 #[.int .i64 b, .slice dA dl.length dc] from HF1.out)
  have HV2 := Lib.hid (show Box W1.drew rb 36 zF from HV1.out)
  have HO2 := Lib.hid HO1.out.drew
  have H2 := Lib.hid (show CchB KO i W1.drew cb mb c hv tier s D from H1.out.keep ((Only.refl Non W1).drew))
  clear f0 f1 s3 H1 HF1 HV1 HO1
  generalize W1.drew = W2 at *
  have f0 : W2.cell? ⟨fb, 0, none⟩ = some (.int .i64 b) := HF2.out.cellAt rfl
  go_upto_region 8 with (go_at_call 18; refine (HTK.out W2 H2.out).mono ?_; rintro e W3 ⟨rfl, ho3⟩)
  have HV3 := Lib.hid (ho3.box HV2.out id)
  have HO3 := Lib.hid (HO2.out.trans ho3)
  clear ho3
  go_wp2_with (refine wpList_store_row rfl 36 _ _ rfl rb zF rfl rfl 36 _ HV3.out (by kernel_rfl) rfl (by simp [zF, Value.oneCell']) ?_)
  (try simp only [Exit.inBlock, Exit.then])
  refine bodyPost_ret (results_ctt rfl _ _ rb _ zF (0, 0) _ rfl (HV3.out.setRow' _) Try.underlying36 rfl (by kernel_rfl)) rfl ?_
  exact ⟨rfl, HO3.out.setRow' (.inr HSZ.out) _⟩
end
end Go.Proofs.Ytdjjlglmhbmnlaa

/- gradinelaw16: its acts in memory; long; cache.New's refusal. -/
namespace Go.Proofs.Ytdjjlglmhbmnlaa
open Go.RowKit Go.ChangeShapes Go.WideShapes
set_option linter.unusedVariables false
set_option linter.unusedSimpArgs false
structure ActC where
  kind : Int
  level : Int
  b : Int
  data : List Int
instance : Inhabited ActC := ⟨⟨0, 0, 0, []⟩⟩
def actC (a : ActC) (dv : Value) : Array Value := #[.int .i64 a.kind, .int .i64 a.level, .int .i64 a.b, dv]
/-- the acts that came in: all lies below base -/
structure CActsAt (base : Nat) (w : World) (A : Option Addr) (n c : Nat) (L : List ActC) : Prop where
  len : n = L.length
  cap : n ≤ c
  max : c ≤ maxLen
  at_ : ∀ i, i < L.length → ∃ g o dv, A = some ⟨g, o, none⟩ ∧ g < base ∧ (∀ j u, (actC (L.getD i default) dv)[j]? = some u → w.cell? ⟨g, o + i * 4 + j, none⟩ = some u) ∧ Byt w dv (L.getD i default).data ∧ (∀ k, 0 < (L.getD i default).data.length → ownB dv k → k < base)
theorem CActsAt.only {S : Nat → Prop} {base : Nat} {w w' : World} {A : Option Addr} {n c : Nat} {L : List ActC} (h : CActsAt base w A n c L) (ho : Only S w w') (hS : ∀ k, k < base → ¬ S k) : CActsAt base w' A n c L :=
  ⟨h.len, h.cap, h.max, fun i hi => by
    obtain ⟨g, o, dv, rfl, hg, hc, hb, hk⟩ := h.at_ i hi
    exact ⟨g, o, dv, rfl, hg, fun j u hj => ho.cell (hc j u hj) (hS g hg), hb.keep ho fun h0 k hk2 _ => hS k (hk k h0 hk2), hk⟩⟩
theorem CActsAt.keep {base : Nat} {w w' : World} {A : Option Addr} {n c : Nat} {L : List ActC} (h : CActsAt base w A n c L) (ho : Only Non w w') : CActsAt base w' A n c L := h.only ho fun _ _ => id
def longB (h : Nat) (L : List ActC) : Bool := decide (20 < h) || decide (120 < L.length) || L.any fun a => decide (100 < a.data.length)
theorem longB_no {h : Nat} {L : List ActC} (e : longB h L = false) : h ≤ 20 ∧ L.length ≤ 120 ∧ ∀ i, i < L.length → (L.getD i default).data.length ≤ 100 := by
  unfold longB at e
  simp only [Bool.or_eq_false_iff, decide_eq_false_iff_not, List.any_eq_false, decide_eq_true_eq] at e
  refine ⟨by omega, by omega, fun i hi => ?_⟩
  have := e.2 (L.getD i default) (by simp [hi])
  omega
def LgRel (L : List ActC) (W : World) (i : Value) (wr : World) : Prop := ∃ k : Nat, k ≤ L.length ∧ i = .int .i64 k ∧ (∀ j, j < k → (L.getD j default).data.length ≤ 100) ∧ W = wr
section
set_option maxHeartbeats 4000000
set_option maxRecDepth 100000
theorem long_any {base : Nat} {w : World} {cf : CfgA} {A : Option Addr} {m : Nat} {B : Option Addr} {n c : Nat} {L : List ActC} (hL : CActsAt base w B n c L) (hm : cf.h.length ≤ maxLen) :
    Calls Try.prog 7 #[.agg (cfgCells cf (.slice A cf.h.length m)), .slice B n c] w fun e w' => e = .returned (.bool (longB cf.h.length L)) ∧ Only Non w w' := by
  obtain rfl := hL.len
  have hn := Nat.le_trans hL.cap hL.max
  unfold maxLen at hn hm
  have HO := Lib.hid ((Only.refl Non w).alloc (.cells (cfgCells cf (.slice A cf.h.length m)) 25))
  have HL := Lib.hid (hL.keep HO.out)
  have HB := Lib.hid (Box.fresh w 25 (cfgCells cf (.slice A cf.h.length m)))
  clear hL
  go_enter Try.func7, Try.ntmps7
  go_upto_region 1 with fail
  change Code.wp _ _ _ _ (w.alloc (.cells (cfgCells cf (.slice A cf.h.length m)) 25))
  generalize w.alloc (.cells (cfgCells cf (.slice A cf.h.length m)) 25) = W at *
  generalize w.heap.size = g at *
  have x16 : W.cell? ⟨g, 16, none⟩ = some (.slice A cf.h.length m) := HB.out.cellAt (cfgCells_hs cf _)
  have hlb : longB cf.h.length L = (decide (20 < cf.h.length) || decide (120 < L.length) || L.any fun a => decide (100 < a.data.length)) := rfl
  have HLB := Lib.hid hlb
  clear hlb
  by_cases c1 : 20 < cf.h.length
  · have c1i : (20 : Int) < cf.h.length := by omega
    go_wp2
    go_ret
    exact ⟨by rw [HLB.out]; simp [c1], HO.out⟩
  · have c1i : ¬ (20 : Int) < cf.h.length := by omega
    by_cases c2 : 120 < L.length
    · have c2i : (120 : Int) < L.length := by omega
      go_wp2
      go_ret
      exact ⟨by rw [HLB.out]; simp [c2], HO.out⟩
    · have c2i : ¬ (120 : Int) < L.length := by omega
      go_upto_region 4 with fail
      go_loopw [17] (fun i wr => LgRel L W i wr) (fun i _ => L.length - (intOf i).toNat)
      case atStart => exact ⟨0, Nat.zero_le _, rfl, fun j hj => absurd hj (by omega), rfl⟩
      case round =>
        obtain ⟨k, hk, rfl, hno, rfl⟩ := hrel
        have HNO := Lib.hid hno
        clear hno
        by_cases hlt : k < L.length
        · obtain ⟨g', o', dv, rfl, hg, hc, hb, _⟩ := HL.out.at_ k hlt
          have y3 := hc 3 dv rfl
          obtain ⟨dA, dc, rfl, _, hmx, _⟩ := id hb
          have hlti : (k : Int) < L.length := by omega
          have HLT := Lib.hid hlt
          have HMEM := Lib.hid (show L.getD k default ∈ L by simp [hlt])
          clear hc hb hlt hk
          generalize hd : L.getD k default = a at *
          have HD := Lib.hid hd
          clear hd
          by_cases c3 : 100 < a.data.length
          · have c3i : (100 : Int) < a.data.length := by omega
            go_wp2
            go_ret
            refine ⟨?_, HO.out⟩
            rw [HLB.out]
            have : (L.any fun a => decide (100 < a.data.length)) = true := List.any_eq_true.2 ⟨a, HMEM.out, by simpa using c3⟩
            rw [this]; simp
          · have c3i : ¬ (100 : Int) < a.data.length := by omega
            go_wp2
            go_roundw
            case rel =>
              refine ⟨k + 1, HLT.out, by go_num, fun j hj => ?_, rfl⟩
              by_cases e : j = k
              · rw [e, HD.out]; omega
              · exact HNO.out j (by omega)
            case measure => simp [intOf]; have := HLT.out; omega
        · obtain rfl : k = L.length := by omega
          clear hlt hk
          go_wp2
          go_ret
          refine ⟨?_, HO.out⟩
          rw [HLB.out]
          have : (L.any fun a => decide (100 < a.data.length)) = false := List.any_eq_false.2 fun a ha => by
            obtain ⟨j, hj, rfl⟩ := List.getElem_of_mem ha
            have := HNO.out j hj
            simp [hj] at this
            simp; omega
          rw [this]; simp [c1, c2]
theorem cch_new_no {c : CfgA} (hP : ¬ CfgP c) (tier : Int) {A : Option Addr} {n cp : Nat} (w : World) (hin : HintsAt w A n cp c.h) :
    Calls Try.prog 8 #[.agg (cfgCells c (.slice A n cp)), .int .i64 tier] w fun e w' => e = .returned (.tuple #[.pointer none, .int .i64 6]) ∧ Only Non w w' := by
  have HI := Lib.hid hin
  have HB := Lib.hid (Box.fresh w 25 (cfgCells c (.slice A n cp)))
  have HO := Lib.hid ((Only.refl Non w).alloc (.cells (cfgCells c (.slice A n cp)) 25))
  have hr := right_any A n cp c _ (HI.out.keep HO.out)
  rw [cfgB_no hP] at hr
  have HR := Lib.hid hr
  clear hr hin hP
  go_enter Try.func8, Try.ntmps8
  go_upto_region 1 with fail
  change Code.wp _ _ _ _ (w.alloc (.cells (cfgCells c (.slice A n cp)) 25))
  generalize w.alloc (.cells (cfgCells c (.slice A n cp)) 25) = W at *
  generalize w.heap.size = bb at *
  go_wp2_with (first | (refine wpList_load_row rfl 25 _ rfl bb rfl 25 (cfgCells c (.slice A n cp)) (0, 0) _ HB.out Try.underlying25 rfl (by kernel_rfl) ?_) | (go_at_call 21; refine HR.out.mono ?_; rintro e W2 ⟨rfl, ho2⟩))
  go_ret2
  exact ⟨rfl, HO.out.trans ho2⟩
theorem cch_new_tier {c : CfgA} (hP : CfgP c) {tier : Int} (ht : tier < 1 ∨ 3 < tier) {A : Option Addr} {n cp : Nat} (w : World) (hin : HintsAt w A n cp c.h) :
    Calls Try.prog 8 #[.agg (cfgCells c (.slice A n cp)), .int .i64 tier] w fun e w' => e = .returned (.tuple #[.pointer none, .int .i64 6]) ∧ Only Non w w' := by
  have HI := Lib.hid hin
  have HB := Lib.hid (Box.fresh w 25 (cfgCells c (.slice A n cp)))
  have HO := Lib.hid ((Only.refl Non w).alloc (.cells (cfgCells c (.slice A n cp)) 25))
  have hr := right_any A n cp c _ (HI.out.keep HO.out)
  rw [cfgB_yes hP] at hr
  have HR := Lib.hid hr
  clear hr hin hP
  rcases ht with ht | ht
  · go_enter Try.func8, Try.ntmps8
    go_upto_region 1 with fail
    change Code.wp _ _ _ _ (w.alloc (.cells (cfgCells c (.slice A n cp)) 25))
    generalize w.alloc (.cells (cfgCells c (.slice A n cp)) 25) = W at *
    generalize w.heap.size = bb at *
    go_wp2_with (first | (refine wpList_load_row rfl 25 _ rfl bb rfl 25 (cfgCells c (.slice A n cp)) (0, 0) _ HB.out Try.underlying25 rfl (by kernel_rfl) ?_) | (go_at_call 21; refine HR.out.mono ?_; rintro e W2 ⟨rfl, ho2⟩))
    go_ret2
    exact ⟨rfl, HO.out.trans ho2⟩
  · have ht1 : ¬ tier < 1 := by omega
    go_enter Try.func8, Try.ntmps8
    go_upto_region 1 with fail
    change Code.wp _ _ _ _ (w.alloc (.cells (cfgCells c (.slice A n cp)) 25))
    generalize w.alloc (.cells (cfgCells c (.slice A n cp)) 25) = W at *
    generalize w.heap.size = bb at *
    go_wp2_with (first | (refine wpList_load_row rfl 25 _ rfl bb rfl 25 (cfgCells c (.slice A n cp)) (0, 0) _ HB.out Try.underlying25 rfl (by kernel_rfl) ?_) | (go_at_call 21; refine HR.out.mono ?_; rintro e W2 ⟨rfl, ho2⟩))
    go_ret2
    exact ⟨rfl, HO.out.trans ho2⟩
end
end Go.Proofs.Ytdjjlglmhbmnlaa

/- cache.Cache.Put at any frame, whatever the configuration. -/
namespace Go.Proofs.Ytdjjlglmhbmnlaa
open Go.RowKit Go.ChangeShapes Go.WideShapes
set_option linter.unusedVariables false
set_option linter.unusedSimpArgs false
def thereB (c : CfgA) (b : Int) : Bool := decide (0 ≤ b) && decide (b < c.f 2)
/-- what Put answers: 0 where it puts -/
def putCode (c : CfgA) (k : Nat) (b : Int) (n : Nat) (level : Int) : Int := if thereB c b = false then 9 else if (n : Int) ≠ c.f 3 then 10 else if takesB c k b level = false then 5 else 0
theorem thereB_of {c : CfgA} {k : Nat} {b level : Int} (h : takesB c k b level = true) : thereB c b = true := by
  unfold takesB at h
  simp only [Bool.and_eq_true] at h
  unfold thereB
  simp [h.1]
theorem putCode_zero {c : CfgA} {k : Nat} {b : Int} {n : Nat} {level : Int} (h : putCode c k b n level = 0) : takesB c k b level = true ∧ (n : Int) = c.f 3 ∧ 0 ≤ b ∧ b < c.f 2 := by
  unfold putCode at h
  split at h
  · cases h
  · rename_i h1
    split at h
    · cases h
    · rename_i h2
      split at h
      · cases h
      · rename_i h3
        have h3 : takesB c k b level = true := by simpa using h3
        have h4 := thereB_of h3
        unfold thereB at h4
        simp only [Bool.and_eq_true, decide_eq_true_eq] at h4
        exact ⟨h3, by omega, h4.1, h4.2⟩
section
variable {c : CfgA} {k : Nat} {hP : CfgP c} {hk : k < 3} {i : (kOf c k hP hk).ι} {w : World} {cb mb : Nat} {hv : Value} {s : (kOf c k hP hk).σ} {D : Int → Option Blk} {b : Int} {dl : List Int} {dv : Value}
theorem put_refused (h : CchB (kOf c k hP hk) i w cb mb c hv (k + 1) s D) (hby : Byt w dv dl) (level : Int) (hc : putCode c k b dl.length level ≠ 0) :
    Calls Try.prog 11 #[.pointer (some ⟨cb, 0, none⟩), .agg #[.int .i64 b, dv], .int .i64 level] w fun e w' => e = .returned (.tuple #[.agg zF, .bool false, .int .i64 (putCode c k b dl.length level)]) ∧ Only Non w w' := by
  unfold putCode at *
  by_cases h1 : thereB c b = false
  · rw [if_pos h1] at *
    exact put_there h hby h1 level
  · rw [if_neg h1] at *
    have h1 : thereB c b = true := by simpa using h1
    by_cases h2 : (dl.length : Int) ≠ c.f 3
    · rw [if_pos h2] at *
      exact put_size h hby h1 h2 level
    · rw [if_neg h2] at *
      by_cases h3 : takesB c k b level = false
      · rw [if_pos h3] at *
        exact put_takes h hby h1 (by omega) level fun w' h' => by
          have := takes_any b level h'
          rw [h3] at this
          exact this
      · rw [if_neg h3] at hc
        exact absurd rfl hc
theorem put_done (h : CchB (kOf c k hP hk) i w cb mb c hv (k + 1) s D) (hby : Byt w dv dl) (hdv : ∀ j, ownB dv j → ¬ (kOf c k hP hk).F i j ∧ j ≠ mb) (level : Int) (hc : putCode c k b dl.length level = 0) (hage : (kOf c k hP hk).sp.age s < maxAge) :
    Calls Try.prog 11 #[.pointer (some ⟨cb, 0, none⟩), .agg #[.int .i64 b, dv], .int .i64 level] w (PutPost (kOf c k hP hk) i cb mb c hv (k + 1) s D b dl w) := by
  obtain ⟨h1, h2, h3, h4⟩ := putCode_zero hc
  exact cch_put h hby hdv h3 h4 h2 level (fun w' h' => by
    have := takes_any b level h'
    rw [h1] at this
    exact this) (takesB_sp h1) hage
/-- as many are there behind a put that lets one go -/
theorem nodup_sub : ∀ {L L' : List Int}, L.Nodup → (∀ x ∈ L, x ∈ L') → L.length ≤ L'.length
  | [], L', _, _ => Nat.zero_le _
  | a :: L, L', hn, h => by
    rw [List.nodup_cons] at hn
    have ha := h a (List.mem_cons_self ..)
    have := nodup_sub (L' := L'.erase a) hn.2 fun x hx => (List.mem_erase_of_ne (fun (e : x = a) => hn.1 (e ▸ hx))).2 (h x (List.mem_cons_of_mem _ hx))
    rw [List.length_erase_of_mem ha] at this
    have := List.length_pos_of_mem ha
    rw [List.length_cons]
    omega
theorem gone_len {L L' : List Int} {b v : Int} (hn : L.Nodup) (hn' : L'.Nodup) (hv : v ∈ L) (hb : b ∉ L) (h : ∀ y, y ∈ L' ↔ y = b ∨ (y ∈ L ∧ y ≠ v)) : L'.length = L.length := by
  have e : (b :: L.erase v).length = L.length := by
    rw [List.length_cons, List.length_erase_of_mem hv]
    have := List.length_pos_of_mem hv
    omega
  have hn2 : (b :: L.erase v).Nodup := List.nodup_cons.2 ⟨fun h2 => hb (List.mem_of_mem_erase h2), hn.erase v⟩
  have h1 : L'.length ≤ (b :: L.erase v).length := nodup_sub hn' fun x hx => by
    rcases (h x).1 hx with rfl | ⟨h3, h4⟩
    · exact List.mem_cons_self ..
    · exact List.mem_cons_of_mem _ ((List.mem_erase_of_ne h4).2 h3)
  have h2 : (b :: L.erase v).length ≤ L'.length := nodup_sub hn2 fun x hx => by
    rcases List.mem_cons.1 hx with rfl | h3
    · exact (h _).2 (.inl rfl)
    · exact (h x).2 (.inr ⟨List.mem_of_mem_erase h3, fun e => by rw [e, hn.mem_erase_iff] at h3; exact h3.1 rfl⟩)
  omega
end
end Go.Proofs.Ytdjjlglmhbmnlaa

/- CacheVictim, walked. -/
namespace Go.Proofs.Ytdjjlglmhbmnlaa
open Go.RowKit Go.ChangeShapes Go.WideShapes
set_option linter.unusedVariables false
set_option linter.unusedSimpArgs false
def zAc : Array Value := #[.int .i64 0, .int .i64 0, .int .i64 0, .slice none 0 0]
/-- the bytes that were told last of each block that is there -/
def LastOf (base : Nat) (w : World) (D : Int → Option Blk) (LV : Int → Option Value) : Prop :=
  ∀ b l v, D b = some (l, v) → ∃ u, LV b = some u ∧ Byt w u l ∧ (0 < l.length → ∀ j, ownB u j → j < base)
theorem LastOf.keep {base : Nat} {w w' : World} {D : Int → Option Blk} {LV : Int → Option Value} {S : Nat → Prop} (h : LastOf base w D LV) (ho : Only S w w') (hS : ∀ k, k < base → ¬ S k) : LastOf base w' D LV := fun b l v hb => by
  obtain ⟨u, h1, h2, h3⟩ := h b l v hb
  exact ⟨u, h1, h2.keep ho fun h0 j hj _ => hS j (h3 h0 j hj), h3⟩
theorem lastOf_set {base : Nat} {w : World} {D : Int → Option Blk} {LV : Int → Option Value} {b : Int} {dl : List Int} {vv u : Value} (h : LastOf base w D LV) (hby : Byt w u dl) (hu : 0 < dl.length → ∀ j, ownB u j → j < base) : LastOf base w (updI D b (some (dl, vv))) (fSet LV b u) := fun y l v hy => by
  unfold updI at hy
  unfold fSet
  split at hy
  · injection hy with hy
    injection hy with h1 h2
    subst h1
    rename_i e
    rw [if_pos e]
    exact ⟨u, rfl, hby, hu⟩
  · rename_i e
    rw [if_neg e]
    exact h y l v hy
theorem lastOf_less {base : Nat} {w : World} {D : Int → Option Blk} {LV : Int → Option Value} {b : Int} (h : LastOf base w D LV) : LastOf base w (updI D b none) LV := fun y l v hy => by
  unfold updI at hy
  split at hy
  · cases hy
  · exact h y l v hy
theorem MapI.ne_cell {w : World} {lb g o : Nat} {F : Int → Option Value} {v : Value} (h : MapI w lb F) (hc : w.cell? ⟨g, o, none⟩ = some v) : g ≠ lb := by
  rintro rfl
  obtain ⟨es, clock, h1, _⟩ := h
  simp [World.cell?, h1] at hc
/-- another map is written to -/
theorem CchB.offMap {K : OKind} {i : K.ι} {w w' : World} {cb mb lb : Nat} {c : CfgA} {hv : Value} {tier : Nat} {s : K.σ} {D : Int → Option Blk} {LV : Int → Option Value} (h : CchB K i w cb mb c hv tier s D) (hm : MapI w lb LV)
    (h1 : cb ≠ lb) (h2 : mb ≠ lb) (h3 : ¬ K.F i lb) (ho : Only (Just lb) w w') : CchB K i w' cb mb c hv tier s D :=
  h.off ho (fun k hk e => h3 (by rw [← show k = lb from e]; exact hk)) h1 h2 (fun b l v hb k hk e => by
    obtain ⟨a1, a2, g, ca, rfl, a3, _⟩ := h.dat b l v hb
    obtain ⟨g', o', e2, hc⟩ := a2.cellAt (i := 0) (by have := h.right.p3; omega)
    injection e2 with e2; injection e2 with e2
    exact hm.ne_cell (by rw [← e2] at hc; exact hc) ((ownB_slice.1 hk).trans e)) fun h0 k hk e => by
    obtain ⟨A, n, cp, rfl, h8, _⟩ := h.hin
    obtain ⟨g, o, rfl, hg, hc, _⟩ := h8.at_ 0 h0
    exact hm.ne_cell hc ((ownB_slice.1 hk).trans e)
/-- what Put tells: nothing goes -/
def PutN (K : OKind) (i : K.ι) (cb mb : Nat) (c : CfgA) (hv : Value) (tier : Nat) (s : K.σ) (D : Int → Option Blk) (b : Int) (dl : List Int) (w : World) (e : Ending) (w' : World) : Prop :=
  e = .returned (.tuple #[.agg zF, .bool false, .int .i64 0]) ∧ ∃ vv, CchB K i w' cb mb c hv tier (K.sp.add s b).1 (updI D b (some (dl, vv))) ∧ (∀ k, ownB vv k → w.heap.size ≤ k) ∧ Only (CF2 (K.F i) mb) w w'
/-- what Put tells: v goes -/
def PutG (K : OKind) (i : K.ι) (cb mb : Nat) (c : CfgA) (hv : Value) (tier : Nat) (s : K.σ) (D : Int → Option Blk) (b : Int) (dl : List Int) (v : Int) (vd : Value) (w : World) (e : Ending) (w' : World) : Prop :=
  e = .returned (.tuple #[.agg #[.int .i64 v, vd], .bool true, .int .i64 0]) ∧ ∃ vv, CchB K i w' cb mb c hv tier (K.sp.add s b).1 (updI (updI D v none) b (some (dl, vv))) ∧ (∀ k, ownB vv k → w.heap.size ≤ k) ∧ Only (CF2 (K.F i) mb) w w'
theorem put_split {K : OKind} {i : K.ι} {w : World} {cb mb : Nat} {c : CfgA} {hv : Value} {tier : Nat} {s : K.σ} {D : Int → Option Blk} {b : Int} {dl : List Int} {args : Array Value} (h : CchB K i w cb mb c hv tier s D)
    (h0 : 0 ≤ b) (h1 : b < 64) (ht : K.sp.takes b) (hp : Calls Try.prog 11 args w (PutPost K i cb mb c hv tier s D b dl w)) :
    ((K.sp.add s b).2.2 = false ∧ Calls Try.prog 11 args w (PutN K i cb mb c hv tier s D b dl w)) ∨
    ∃ v l0 vd, (K.sp.add s b).2.2 = true ∧ D v = some (l0, vd) ∧ v ∉ K.sp.all (K.sp.add s b).1 ∧ b ∉ K.sp.all s ∧ (∀ y, y ∈ K.sp.all (K.sp.add s b).1 ↔ y = b ∨ (y ∈ K.sp.all s ∧ y ≠ v)) ∧ Calls Try.prog 11 args w (PutG K i cb mb c hv tier s D b dl v vd w) := by
  rcases (K.oc i).addL h.ord h0 h1 ht with ⟨e1, e2, e3⟩ | ⟨e1, e2, e3, e4⟩
  · refine .inl ⟨e1, hp.mono fun e w' ⟨vv, h2, h3, h4, h5⟩ => ?_⟩
    rw [e1, e2] at h2
    rw [e1, e2] at h3
    exact ⟨h2, vv, h3, h4, h5⟩
  · refine .inr ?_
    obtain ⟨⟨l0, vd⟩, hD⟩ := Option.isSome_iff_exists.1 ((h.keys _).2 e2)
    refine ⟨_, l0, vd, e1, hD, fun hm => ?_, e3, e4, hp.mono fun e w' ⟨vv, h2, h3, h4, h5⟩ => ?_⟩
    · rcases (e4 _).1 hm with e5 | e5
      · exact e3 (e5 ▸ e2)
      · exact e5.2 rfl
    · rw [e1] at h2
      rw [e1] at h3
      have hv : victD D true (K.sp.add s b).2.1 = vd := by unfold victD; rw [if_pos rfl, hD]; rfl
      rw [hv] at h2
      exact ⟨h2, vv, h3, h4, h5⟩
structure CvI (K : OKind) (i : K.ι) (base : Nat) (c : CfgA) (k cb mb lb cfb : Nat) (hv cv : Value) (n : Nat) (w : World) (s : K.σ) (D : Int → Option Blk) (LV : Int → Option Value) (wr : World) : Prop where
  ch : CchB K i wr cb mb c hv (k + 1) s D
  mp : MapI wr lb LV
  la : LastOf base wr D LV
  age : K.sp.age s ≤ 40 * n
  cf : Box wr cfb 25 (cfgCells c cv)
  o : Only Non w wr
def CvRel (K : OKind) (i : K.ι) (base : Nat) (c : CfgA) (k cb mb lb cfb : Nat) (hv cv : Value) (N : Nat) (w : World) (iv : Value) (wr : World) : Prop :=
  ∃ (n : Nat) (s : K.σ) (D : Int → Option Blk) (LV : Int → Option Value), n ≤ N ∧ iv = .int .i64 n ∧ CvI K i base c k cb mb lb cfb hv cv n w s D LV wr
section
set_option maxHeartbeats 4000000
set_option maxRecDepth 100000
theorem victim_walk (c : CfgA) (L : List ActC) (A B : Option Addr) (m n : Nat) (x : Nat) (w : World) (hin : HintsAt w A c.h.length m c.h) (hL : CActsAt w.heap.size w B L.length n L) (hx : x ≤ 255) :
    Calls Try.prog 3 #[.agg (cfgCells c (.slice A c.h.length m)), .int .u8 x, .slice B L.length n] w fun e w' => e = .returned (.bool true) ∧ Only Non w w' := by
  have HIN := Lib.hid hin
  have HL := Lib.hid hL
  have hmx := Nat.le_trans hL.cap hL.max
  have hmh := Nat.le_trans hin.cap hin.max
  have HMX := Lib.hid hmx
  have HMH := Lib.hid hmh
  have HB := Lib.hid (Box.fresh w 25 (cfgCells c (.slice A c.h.length m)))
  have HO := Lib.hid ((Only.refl Non w).alloc (.cells (cfgCells c (.slice A c.h.length m)) 25))
  have ek : ∃ k : Nat, k < 3 ∧ k = x % 3 := ⟨x % 3, Nat.mod_lt _ (by decide), rfl⟩
  obtain ⟨k, hk, hkx⟩ := ek
  have HKX := Lib.hid hkx
  have HK := Lib.hid hk
  clear hin hL hmx hmh hkx hk
  go_enter Try.func3, Try.ntmps3
  go_upto_region 1 with fail
  change Code.wp _ _ _ _ (w.alloc (.cells (cfgCells c (.slice A c.h.length m)) 25))
  generalize w.alloc (.cells (cfgCells c (.slice A c.h.length m)) 25) = W1 at *
  obtain ⟨cfb, hcf⟩ : ∃ cfb, cfb = w.heap.size := ⟨_, rfl⟩
  have HCF := Lib.hid (show w.heap.size ≤ cfb from Nat.le_of_eq hcf.symm)
  rw [← hcf] at HB ⊢
  clear hcf
  go_upto_region 3 with (go_at_call 6; refine (wakes_any W1).mono ?_; rintro e W2 ⟨rfl, ho2⟩)
  have HB2 := Lib.hid (ho2.box HB.out id)
  have HO2 := Lib.hid (HO.out.trans ho2)
  clear ho2 HB HO
  have HLG := Lib.hid (long_any (cf := c) (A := A) (m := m) (HL.out.keep HO2.out) HMH.out)
  go_upto_if 21 with (first | (refine wpList_load_row rfl 25 _ rfl cfb rfl 25 (cfgCells c (.slice A c.h.length m)) (0, 0) _ HB2.out Try.underlying25 rfl (by kernel_rfl) ?_) | (go_at_call 7; refine HLG.out.mono ?_; rintro e W3 ⟨rfl, ho3⟩))
  have HB3 := Lib.hid (ho3.box HB2.out id)
  have HO3 := Lib.hid (HO2.out.trans ho3)
  clear ho3 HB2 HO2 HLG
  cases hlb : longB c.h.length L with
  | true =>
    clear hlb
    go_wp2
    go_ret
    exact ⟨rfl, HO3.out⟩
  | false =>
    obtain ⟨hl1, hl2, hl3⟩ := longB_no hlb
    have HL1 := Lib.hid hl1
    have HL3 := Lib.hid hl3
    clear hlb hl1 hl3
    go_upto_region 6 with fail
    obtain ⟨t, ht⟩ : ∃ t : Nat, t = k + 1 := ⟨_, rfl⟩
    have e7 : (1 + (x : Int) % 3) = (t : Int) := by rw [ht, HKX.out]; omega
    rw [e7]
    have HT := Lib.hid ht
    have htk : IntKind.i64.wrap ((t : Int) - 1) = k := by rw [ht, IntKind.wrap_i64]; have := HK.out; omega
    have HTK := Lib.hid htk
    clear ht htk
    by_cases hP : CfgP c
    · have HN := Lib.hid (show Calls Try.prog 8 #[.agg (cfgCells c (.slice A c.h.length m)), .int .i64 t] W3 (NPost (kOf c k hP HK.out) c (k + 1) W3) by
        have := cch_new (kOf_made hP HK.out) hP (by omega) (by have := HK.out; omega) W3 (HIN.out.keep HO3.out)
        rw [HT.out]; exact this)
      have HA0 := Lib.hid (kOf_age0 (hP := hP) (hk := HK.out))
      generalize hK : kOf c k hP HK.out = K at *
      have HKK := Lib.hid hK
      clear hK e7
      go_upto_region 9 with (first | (refine wpList_load_row rfl 25 _ rfl cfb rfl 25 (cfgCells c (.slice A c.h.length m)) (0, 0) _ HB3.out Try.underlying25 rfl (by kernel_rfl) ?_) | (go_at_call 8; refine HN.out.mono ?_; rintro e W4 ⟨i, cb, mb, hv, rfl, hc4, hF4, hcb4, hmb4, _, ho4⟩; have HC4 := Lib.hid hc4; have HF4 := Lib.hid hF4; have HL4 := Lib.hid (show W3.heap.size ≤ cb ∧ W3.heap.size ≤ mb from ⟨hcb4, hmb4⟩); have HB4 := Lib.hid (ho4.box HB3.out id); have HO4 := Lib.hid (HO3.out.trans ho4); clear hc4 hF4 hcb4 hmb4 ho4))
      have hmk := @run_makeMap Try.prog
      go_upto_region 10 with fail
      have HM5 := Lib.hid (MapI.made W4)
      have HO45 := Lib.hid ((Only.refl Non W4).alloc (.map #[] 0))
      have HLB := Lib.hid (show cb < W4.heap.size ∧ mb < W4.heap.size ∧ cfb < W4.heap.size ∧ (∀ j, K.F i j → j < W4.heap.size) from ⟨HC4.out.box.lt, HC4.out.map.lt, HB4.out.lt, (K.oc i).lt HC4.out.ord⟩)
      change Code.wp _ _ _ _ (W4.alloc (.map #[] 0))
      generalize W4.alloc (.map #[] 0) = W5 at *
      generalize W4.heap.size = lb at *
      have HC5 := Lib.hid (HC4.out.keep HO45.out)
      have HB5 := Lib.hid (HO45.out.box HB4.out id)
      have HO5 := Lib.hid (HO4.out.trans HO45.out)
      have HBS := Lib.hid (show w.heap.size ≤ cb ∧ w.heap.size ≤ mb ∧ w.heap.size ≤ lb ∧ (∀ j, K.F i j → w.heap.size ≤ j) from by
        have h1 := HO3.out.size
        have h2 := HL4.out
        have h3 := HLB.out
        exact ⟨by omega, by omega, by omega, fun j hj => by have := HF4.out j hj; omega⟩)
      have HNE := Lib.hid (show cb ≠ lb ∧ mb ≠ lb ∧ cfb ≠ lb ∧ cfb ≠ mb ∧ cfb ≠ cb ∧ ¬ K.F i lb ∧ ¬ K.F i cfb from by
        have h2 := HL4.out
        have h3 := HLB.out
        have h4 := HB3.out.lt
        exact ⟨by omega, by omega, by omega, by omega, by omega, fun h => by have := h3.2.2.2 _ h; omega, fun h => by have := HF4.out _ h; omega⟩)
      clear hmk HC4 HF4 HL4 HB4 HO4 HN HO45 HLB HB3 HO3
      go_upto_region 11 with fail
      go_loopw [37] (fun iv wr => CvRel K i w.heap.size c k cb mb lb cfb hv (.slice A c.h.length m) L.length w iv wr) (fun iv _ => L.length - (intOf iv).toNat)
      case atStart => exact ⟨0, K.s0, fun _ => none, fun _ => none, Nat.zero_le _, rfl, HC5.out, HM5.out, fun b l v h => (by cases h), by rw [HA0.out]; exact Nat.zero_le _, HB5.out, HO5.out⟩
      case round =>
        clear HC5 HM5 HB5 HO5
        obtain ⟨j, s, D, LV, hj, rfl, hI⟩ := hrel
        have HI := Lib.hid hI
        clear hI
        by_cases hlt : j < L.length
        · obtain ⟨g, o, dv, rfl, hg, hcl, hby, hdj⟩ := (HL.out.keep HI.out.o).at_ j hlt
          have hd100 := HL3.out j hlt
          have hltj : (j : Int) < L.length := by omega
          have HLT := Lib.hid hlt
          have HBY := Lib.hid hby
          have HDJ := Lib.hid hdj
          have HD100 := Lib.hid hd100
          have HCL := Lib.hid hcl
          clear hcl hby hdj hlt hj hd100
          generalize L.getD j default = a at *
          obtain ⟨kind, level, b, dl⟩ := a
          obtain ⟨dA, dc, rfl, _⟩ := id HBY.out
          have y0 : wr.cell? ⟨g, o + j * 4, none⟩ = some (.int .i64 kind) := HCL.out 0 _ rfl
          have y1 : wr.cell? ⟨g, o + j * 4 + 1, none⟩ = some (.int .i64 level) := HCL.out 1 _ rfl
          have y2 : wr.cell? ⟨g, o + j * 4 + 2, none⟩ = some (.int .i64 b) := HCL.out 2 _ rfl
          have y3 : wr.cell? ⟨g, o + j * 4 + 3, none⟩ = some (.slice dA dl.length dc) := HCL.out 3 _ rfl
          clear HCL
          go_upto_region 13 with (refine wpList_store_row rfl 38 _ _ rfl wr.heap.size (actC ⟨kind, level, b, dl⟩ (.slice dA dl.length dc)) rfl rfl 38 _ (Box.fresh wr 38 zAc) (by kernel_rfl) rfl (by simp [actC, Value.oneCell']) ?_)
          have ho6 : Only Non wr ((wr.alloc (.cells zAc 38)).setRow wr.heap.size (actC ⟨kind, level, b, dl⟩ (.slice dA dl.length dc))) := ((Only.refl Non wr).alloc _).setRow' (.inr (Nat.le_refl _)) _
          have hb6 := (Box.fresh wr 38 zAc).setRow' (actC ⟨kind, level, b, dl⟩ (.slice dA dl.length dc))
          have HA6 := Lib.hid hb6
          have HO6 := Lib.hid ho6
          have HSZ := Lib.hid (show w.heap.size ≤ wr.heap.size from HI.out.o.size)
          change Code.wp _ _ _ _ ((wr.alloc (.cells zAc 38)).setRow wr.heap.size (actC ⟨kind, level, b, dl⟩ (.slice dA dl.length dc)))
          clear y0 y1 y2 y3 ho6 hb6
          generalize (wr.alloc (.cells zAc 38)).setRow wr.heap.size (actC ⟨kind, level, b, dl⟩ (.slice dA dl.length dc)) = W6 at *
          obtain ⟨ab, hab⟩ : ∃ ab, ab = wr.heap.size := ⟨_, rfl⟩
          have HAB := Lib.hid (show w.heap.size ≤ ab ∧ ab ≠ mb ∧ ab ≠ cb ∧ ab ≠ lb ∧ ¬ K.F i ab from by
            have h1 := HSZ.out; have h2 := HI.out.ch.map.lt; have h3 := HI.out.ch.box.lt; have h4 := HI.out.mp.lt
            exact ⟨by omega, by omega, by omega, by omega, fun h => by have := (K.oc i).lt HI.out.ch.ord _ h; omega⟩)
          rw [← hab] at HA6 ⊢
          clear hab
          have HI6 := Lib.hid (show CvI K i w.heap.size c k cb mb lb cfb hv (.slice A c.h.length m) j w s D LV W6 from ⟨HI.out.ch.keep HO6.out, HI.out.mp.keep HO6.out, HI.out.la.keep HO6.out fun _ _ => id, HI.out.age, HO6.out.box HI.out.cf id, HI.out.o.trans HO6.out⟩)
          have HBY6 := Lib.hid (HBY.out.keep HO6.out fun _ _ _ _ => id)
          clear HI HO6 HBY
          have z0 : W6.cell? ⟨ab, 0, none⟩ = some (.int .i64 kind) := HA6.out.cellAt rfl
          have z1 : W6.cell? ⟨ab, 1, none⟩ = some (.int .i64 level) := HA6.out.cellAt rfl
          have z2 : W6.cell? ⟨ab, 2, none⟩ = some (.int .i64 b) := HA6.out.cellAt rfl
          have z3 : W6.cell? ⟨ab, 3, none⟩ = some (.slice dA dl.length dc) := HA6.out.cellAt rfl
          by_cases hkind : kind = 2
          · subst hkind
            cases hDb : D b with
            | none =>
              have HS := Lib.hid (cch_set_no HI6.out.ch hDb HBY6.out)
              clear hDb
              go_wp2_with (go_at_call 9; refine HS.out.mono ?_; rintro e W7 ⟨rfl, ho7⟩)
              go_roundw
              case rel => exact ⟨j + 1, s, D, LV, HLT.out, by go_num, HI6.out.ch.keep ho7, HI6.out.mp.keep ho7, HI6.out.la.keep ho7 fun _ _ => id, by have := HI6.out.age; omega, ho7.box HI6.out.cf id, HI6.out.o.trans ho7⟩
              case measure => simp [intOf]; have := HLT.out; omega
            | some p =>
              by_cases hsz : (dl.length : Int) = c.f 3
              · have HS := Lib.hid (cch_set_in HI6.out.ch hDb HBY6.out hsz)
                have HBI := Lib.hid (show I64 b from by have := (K.oc i).rng HI6.out.ch.ord (HI6.out.ch.in_ hDb); exact ⟨by omega, by omega⟩)
                have HSZ3 := Lib.hid hsz
                clear hDb hsz
                go_upto_region 15 with (go_at_call 9; refine HS.out.mono ?_; rintro e W7 ⟨vv, rfl, hc7, hv7, ho7⟩; have HC7 := Lib.hid hc7; have HV7 := Lib.hid hv7; have HO7 := Lib.hid ho7; clear hc7 hv7 ho7)
                have HB7 := Lib.hid (HBY6.out.only HO7.out fun q hq e => by
                  have h1 := HDJ.out q (by have := HI6.out.ch.right.p3; have := HSZ3.out; omega) hq
                  have h2 := HBS.out.2.1
                  have h3 : q = mb := e
                  omega)
                have hA7 := HO7.out.box HA6.out HAB.out.2.1
                have z2 : W7.cell? ⟨ab, 2, none⟩ = some (.int .i64 b) := hA7.cellAt rfl
                have z3 : W7.cell? ⟨ab, 3, none⟩ = some (.slice dA dl.length dc) := hA7.cellAt rfl
                have HM7 := Lib.hid (HI6.out.mp.only HO7.out fun e => HNE.out.2.1 (show lb = mb from e).symm)
                clear hA7
                go_wp2_with (refine wpList_put_i W7 rfl _ _ _ rfl lawB Try.underlying3 lb LV b (.slice dA dl.length dc) rfl rfl rfl HM7.out HBI.out ?_; intro W8 hm8 ho8; have HM8 := Lib.hid hm8; have HO8 := Lib.hid ho8; clear hm8 ho8)
                go_roundw
                case rel =>
                  have hbs := HBS.out
                  have hS7 : ∀ q, q < w.heap.size → ¬ Just mb q := fun q hq e => by have h : q = mb := e; omega
                  have hS8 : ∀ q, q < w.heap.size → ¬ Just lb q := fun q hq e => by have h : q = lb := e; omega
                  have hb8 : Byt W8 (.slice dA dl.length dc) dl := HB7.out.keep HO8.out fun h0 q hq _ => hS8 q (HDJ.out q h0 hq)
                  refine ⟨j + 1, s, updI D b (some (dl, vv)), fSet LV b (.slice dA dl.length dc), HLT.out, by go_num, ?_, HM8.out, lastOf_set ((HI6.out.la.keep HO7.out hS7).keep HO8.out hS8) hb8 (fun h0 q hq => HDJ.out q h0 hq), by have := HI6.out.age; omega, HO8.out.box (HO7.out.box HI6.out.cf HNE.out.2.2.2.1) HNE.out.2.2.1, (HI6.out.o.trans' HO7.out fun q hq => .inr (by rw [show q = mb from hq]; exact hbs.2.1)).trans' HO8.out fun q hq => .inr (by rw [show q = lb from hq]; exact hbs.2.2.1)⟩
                  exact HC7.out.offMap HM7.out HNE.out.1 HNE.out.2.1 HNE.out.2.2.2.2.2.1 HO8.out
                case measure => simp [intOf]; have := HLT.out; omega
              · have HS := Lib.hid (cch_set_len HI6.out.ch hDb HBY6.out hsz)
                clear hDb hsz
                go_wp2_with (go_at_call 9; refine HS.out.mono ?_; rintro e W7 ⟨rfl, ho7⟩)
                go_roundw
                case rel => exact ⟨j + 1, s, D, LV, HLT.out, by go_num, HI6.out.ch.keep ho7, HI6.out.mp.keep ho7, HI6.out.la.keep ho7 fun _ _ => id, by have := HI6.out.age; omega, ho7.box HI6.out.cf id, HI6.out.o.trans ho7⟩
                case measure => simp [intOf]; have := HLT.out; omega
          · have hkb : (kind == 2) = false := by simpa using hkind
            have HLEN := Lib.hid (cch_len HI6.out.ch)
            generalize hn0 : (K.sp.all s).length = n0 at *
            have HN0 := Lib.hid hn0
            clear hn0 hkind
            go_upto_region 17 with (go_at_call 10; refine HLEN.out.mono ?_; rintro e W7 ⟨rfl, ho7⟩)
            clear hkb
            have HI7 := Lib.hid (show CvI K i w.heap.size c k cb mb lb cfb hv (.slice A c.h.length m) j w s D LV W7 from ⟨HI6.out.ch.keep ho7, HI6.out.mp.keep ho7, HI6.out.la.keep ho7 fun _ _ => id, HI6.out.age, ho7.box HI6.out.cf id, HI6.out.o.trans ho7⟩)
            have HBY7 := Lib.hid (HBY6.out.keep ho7 fun _ _ _ _ => id)
            have HA7 := Lib.hid (ho7.box HA6.out id)
            clear HI6 HBY6 HA6 z0 z1 z2 z3 ho7 HLEN
            have z1 : W7.cell? ⟨ab, 1, none⟩ = some (.int .i64 level) := HA7.out.cellAt rfl
            have z2 : W7.cell? ⟨ab, 2, none⟩ = some (.int .i64 b) := HA7.out.cellAt rfl
            have z3 : W7.cell? ⟨ab, 3, none⟩ = some (.slice dA dl.length dc) := HA7.out.cellAt rfl
            by_cases hcode : putCode c k b dl.length level = 0
            · have hz := putCode_zero hcode
              have HBI := Lib.hid (show I64 b from by have := HI7.out.ch.right.p2; exact ⟨by omega, by omega⟩)
              have hb64 : 0 ≤ b ∧ b < 64 := by have := HI7.out.ch.right.p2; omega
              have hdne : ∀ q, ownB (.slice dA dl.length dc) q → ¬ K.F i q ∧ q ≠ mb := fun q hq => by
                have h1 := HDJ.out q (by have := HI7.out.ch.right.p3; omega) hq
                have h2 := HBS.out
                exact ⟨fun h => by have := h2.2.2.2 q h; omega, by omega⟩
              have HP : ((K.sp.add s b).2.2 = false ∧ _) ∨ _ := put_split HI7.out.ch hb64.1 hb64.2 (show K.sp.takes b from by obtain rfl := HKK.out; exact takesB_sp hz.1) (show Calls Try.prog 11 #[.pointer (some ⟨cb, 0, none⟩), .agg #[.int .i64 b, .slice dA dl.length dc], .int .i64 level] W7 (PutPost K i cb mb c hv (k + 1) s D b dl W7) from by
                have hage : K.sp.age s < maxAge := by have := HI7.out.age; have := HLT.out; unfold maxAge; omega
                obtain rfl := HKK.out
                exact put_done HI7.out.ch HBY7.out hdne level hcode hage)
              have HAGE := Lib.hid (show K.sp.age (K.sp.add s b).1 ≤ 40 * (j + 1) by have h1 := (K.oc i).ageA s b; have := HI7.out.age; omega)
              have HROOM := Lib.hid (show c.f 5 ≠ 2 → (K.sp.add s b).2.2 = true → c.f (9 + k) ≤ ((K.sp.all s).length : Int) from fun h1 h2 => by
                obtain rfl := HKK.out
                exact kOf_room h1 h2)
              have hbs := HBS.out
              have HSF := Lib.hid (show ∀ q, CF2 (K.F i) mb q → w.heap.size ≤ q from fun q hq => hq.elim (hbs.2.2.2 q) fun e => by rw [e]; exact hbs.2.1)
              have HNF := Lib.hid (show ¬ CF2 (K.F i) mb ab ∧ ¬ CF2 (K.F i) mb lb ∧ ¬ CF2 (K.F i) mb cfb from ⟨fun e => e.elim HAB.out.2.2.2.2 HAB.out.2.1, fun e => e.elim HNE.out.2.2.2.2.2.1 fun e => HNE.out.2.1 e.symm, fun e => e.elim HNE.out.2.2.2.2.2.2 HNE.out.2.2.2.1⟩)
              clear hz hb64 hdne hcode hbs
              rcases HP with ⟨hg, HP⟩ | ⟨v, l0, vd, hg, hDv, hvn, hbn, hmem, HP⟩
              · have HP := Lib.hid HP
                clear hg HROOM
                go_upto_region 18 with (first | (go_at_call 11; refine HP.out.mono ?_; rintro e W8 ⟨rfl, vv, hc8, hv8, ho8⟩) | (refine wpList_store_row rfl 36 _ _ rfl W8.heap.size zF rfl rfl 36 _ (Box.fresh W8 36 zF) (by kernel_rfl) rfl (by simp [zF, Value.oneCell']) ?_))
                have ho9 : Only Non W8 ((W8.alloc (.cells zF 36)).setRow W8.heap.size zF) := ((Only.refl Non W8).alloc _).setRow' (.inr (Nat.le_refl _)) _
                change Code.wp _ _ _ _ ((W8.alloc (.cells zF 36)).setRow W8.heap.size zF)
                have HC9 := Lib.hid (hc8.keep ho9)
                have HO9 := Lib.hid (ho8.transN ho9)
                generalize (W8.alloc (.cells zF 36)).setRow W8.heap.size zF = W9 at *
                clear ho8 ho9 z1 z2 z3 hc8 hv8 HP
                have hA9 := HO9.out.box HA7.out HNF.out.1
                have z2 : W9.cell? ⟨ab, 2, none⟩ = some (.int .i64 b) := hA9.cellAt rfl
                have z3 : W9.cell? ⟨ab, 3, none⟩ = some (.slice dA dl.length dc) := hA9.cellAt rfl
                have HM9 := Lib.hid (HI7.out.mp.only HO9.out HNF.out.2.1)
                clear hA9
                go_wp2_with (refine wpList_put_i W9 rfl _ _ _ rfl lawB Try.underlying3 lb LV b (.slice dA dl.length dc) rfl rfl rfl HM9.out HBI.out ?_; intro W10 hm10 ho10; have HM10 := Lib.hid hm10; have HO10 := Lib.hid ho10; clear hm10 ho10)
                go_roundw
                case rel =>
                  have hS8 : ∀ q, q < w.heap.size → ¬ CF2 (K.F i) mb q := fun q hq e => by have := HSF.out q e; omega
                  have hS9 : ∀ q, q < w.heap.size → ¬ Just lb q := fun q hq e => by have h : q = lb := e; have := HBS.out.2.2.1; omega
                  have hb10 : Byt W10 (.slice dA dl.length dc) dl := (HBY7.out.keep HO9.out fun h0 q hq _ => hS8 q (HDJ.out q h0 hq)).keep HO10.out fun h0 q hq _ => hS9 q (HDJ.out q h0 hq)
                  exact ⟨j + 1, _, updI D b (some (dl, vv)), fSet LV b (.slice dA dl.length dc), HLT.out, by go_num, HC9.out.offMap HM9.out HNE.out.1 HNE.out.2.1 HNE.out.2.2.2.2.2.1 HO10.out, HM10.out, lastOf_set ((HI7.out.la.keep HO9.out hS8).keep HO10.out hS9) hb10 (fun h0 q hq => HDJ.out q h0 hq), HAGE.out, HO10.out.box (HO9.out.box HI7.out.cf HNF.out.2.2) HNE.out.2.2.1, (HI7.out.o.trans' HO9.out fun q hq => .inr (HSF.out q hq)).trans' HO10.out fun q hq => .inr (by rw [show q = lb from hq]; exact HBS.out.2.2.1)⟩
                case measure => simp [intOf]; have := HLT.out; omega
              · have HP := Lib.hid HP
                have hroom := HROOM.out
                obtain ⟨lu, hlu1, hlu2, hlu3⟩ := HI7.out.la v l0 vd hDv
                have hdat := HI7.out.ch.dat v l0 vd hDv
                have hvr := (K.oc i).rng HI7.out.ch.ord (HI7.out.ch.in_ hDv)
                have HVI := Lib.hid (show I64 v from ⟨by omega, by omega⟩)
                obtain ⟨_, _, g0, ca0, hvd, _⟩ := id hdat
                subst hvd
                have HDAT := Lib.hid hdat
                have HNOD := Lib.hid ((K.oc i).nodup HI7.out.ch.ord)
                have HLU1 := Lib.hid hlu1
                have HLU2 := Lib.hid hlu2
                have HLU3 := Lib.hid hlu3
                have HVN := Lib.hid hvn
                have HGL := Lib.hid (fun (W : World) (hC : CchB K i W cb mb c hv (k + 1) (K.sp.add s b).1 (updI (updI D v none) b (some (dl, lu))) → False) => True.intro)
                have HLN := Lib.hid (fun (h : (K.sp.all (K.sp.add s b).1).Nodup) => gone_len HNOD.out h (HI7.out.ch.in_ hDv) hbn hmem)
                have HRM := Lib.hid (show c.f 5 ≠ 2 → ¬ (n0 : Int) < c.f (9 + k) from fun h1 => by have := hroom h1 hg; rw [HN0.out] at this; omega)
                clear hroom HROOM hlu1 hlu2 hlu3 hdat hvr hDv hvn hbn hmem hg HGL
                obtain ⟨lA, lc, rfl, _⟩ := id HLU2.out
                go_upto_region 18 with (first | (go_at_call 11; refine HP.out.mono ?_; rintro e W8 ⟨rfl, vv, hc8, hv8, ho8⟩) | (refine wpList_store_row rfl 36 _ _ rfl W8.heap.size #[.int .i64 v, .slice (some ⟨g0, 0, none⟩) l0.length ca0] rfl rfl 36 _ (Box.fresh W8 36 zF) (by kernel_rfl) rfl (by simp [Value.oneCell']) ?_))
                have ho9 : Only Non W8 ((W8.alloc (.cells zF 36)).setRow W8.heap.size #[.int .i64 v, .slice (some ⟨g0, 0, none⟩) l0.length ca0]) := ((Only.refl Non W8).alloc _).setRow' (.inr (Nat.le_refl _)) _
                have hb9 := (Box.fresh W8 36 zF).setRow' #[.int .i64 v, .slice (some ⟨g0, 0, none⟩) l0.length ca0]
                change Code.wp _ _ _ _ ((W8.alloc (.cells zF 36)).setRow W8.heap.size #[.int .i64 v, .slice (some ⟨g0, 0, none⟩) l0.length ca0])
                have HC9 := Lib.hid (hc8.keep ho9)
                have HO9 := Lib.hid (ho8.transN ho9)
                have HF9 := Lib.hid hb9
                have HDT9 := Lib.hid (HDAT.out.far HO9.out)
                have HV8 := Lib.hid hv8
                generalize (W8.alloc (.cells zF 36)).setRow W8.heap.size #[.int .i64 v, .slice (some ⟨g0, 0, none⟩) l0.length ca0] = W9 at *
                generalize W8.heap.size = vb at *
                clear ho8 ho9 z1 z2 z3 hc8 hv8 HP hb9 HDAT
                have HS8 := Lib.hid (show ∀ q, q < w.heap.size → ¬ CF2 (K.F i) mb q from fun q hq e => by have := HSF.out q e; omega)
                have HHAS : Hid (Calls Try.prog 12 #[.pointer (some ⟨cb, 0, none⟩), .int .i64 v] W9 fun e w' => e = .returned (.bool false) ∧ Only Non W9 w') := Lib.hid (by
                  have := cch_has v HC9.out
                  rw [decide_eq_false HVN.out] at this
                  exact this)
                have HM9 := Lib.hid (HI7.out.mp.only HO9.out HNF.out.2.1)
                have HLUB := Lib.hid (HLU2.out.keep HO9.out fun h0 q hq _ => HS8.out q (HLU3.out h0 q hq))
                have HLEN : Hid (∀ W, Only Non W9 W → Calls Try.prog 10 #[.pointer (some ⟨cb, 0, none⟩)] W fun e w' => e = .returned (.int .i64 n0) ∧ Only Non W w') := Lib.hid fun W hW => by
                  have h1 := HC9.out.keep hW
                  have h2 := cch_len h1
                  rw [HLN.out ((K.oc i).nodup h1.ord), HN0.out] at h2
                  exact h2
                have f0 : W9.cell? ⟨vb, 0, none⟩ = some (.int .i64 v) := HF9.out.cellAt rfl
                go_upto_region 20 with (first | (go_at_call 12; refine HHAS.out.mono ?_; rintro e W10 ⟨rfl, ho10⟩; have HO10 := Lib.hid ho10; have f0 : W10.cell? ⟨vb, 0, none⟩ = some (.int .i64 v) := (ho10.box HF9.out id).cellAt rfl; have f1 : W10.cell? ⟨vb, 1, none⟩ = some (.slice (some ⟨g0, 0, none⟩) l0.length ca0) := (ho10.box HF9.out id).cellAt rfl; have hlk := run_look_i (P := Try.prog) (HM9.out.keep ho10) lawB Try.underlying3 (z := .slice none 0 0) (by kernel_rfl) HVI.out; rw [HLU1.out, Option.getD_some] at hlk) | (go_at_call 13; refine (same_any _ _ l0 l0 _ (HDT9.out.byt.only HO10.out fun _ _ => id) (HLUB.out.only HO10.out fun _ _ => id)).mono ?_; rw [decide_eq_true rfl]; rintro e W11 ⟨rfl, mq, rfl⟩) | (go_at_call 10; refine (HLEN.out _ (HO10.out.drewN _)).mono ?_; rintro e W12 ⟨rfl, ho12⟩))
                have ho12 : Only Non W9 W12 := (HO10.out.drewN _).trans ho12
                have HO12 := Lib.hid (HO9.out.transN ho12)
                have HC12 := Lib.hid (HC9.out.keep ho12)
                have HM12 := Lib.hid (HM9.out.keep ho12)
                have hcf := HO12.out.box HI7.out.cf HNF.out.2.2
                have x5 : W12.cell? ⟨cfb, 5, none⟩ = some (.int .i64 (c.f 5)) := hcf.cellAt (cfgCells_at c _ (by decide))
                have x9 : W12.cell? ⟨cfb, 9 + k, none⟩ = some (.int .i64 (c.f (9 + k))) := hcf.cellAt (cfgCells_at c _ (by have := HK.out; omega))
                have hA12 := HO12.out.box HA7.out HNF.out.1
                have z2 : W12.cell? ⟨ab, 2, none⟩ = some (.int .i64 b) := hA12.cellAt rfl
                have z3 : W12.cell? ⟨ab, 3, none⟩ = some (.slice dA dl.length dc) := hA12.cellAt rfl
                have HCF12 := Lib.hid hcf
                have htk := HTK.out
                have hk3 : (k : Int) < 3 := by have := HK.out; omega
                have hrm := HRM.out
                clear f0 f1 hlk hA12 hcf ho12 HC9 HM9 HO9 HF9 HDT9 HHAS HLUB HLEN HO10 HRM
                generalize c.f (9 + k) = f9 at *
                by_cases h5 : c.f 5 = 2
                · have h5b : (c.f 5 != 2) = false := by simp [h5]
                  clear hrm h5
                  generalize c.f 5 = f5 at *
                  go_wp2_with (refine wpList_put_i W12 rfl _ _ _ rfl lawB Try.underlying3 lb LV b (.slice dA dl.length dc) rfl rfl rfl HM12.out HBI.out ?_; intro W13 hm13 ho13; have HM13 := Lib.hid hm13; have HO13 := Lib.hid ho13; clear hm13 ho13)
                  go_roundw
                  case rel =>
                    have hS9 : ∀ q, q < w.heap.size → ¬ Just lb q := fun q hq e => by have h : q = lb := e; have := HBS.out.2.2.1; omega
                    have hb13 : Byt W13 (.slice dA dl.length dc) dl := (HBY7.out.keep HO12.out fun h0 q hq _ => HS8.out q (HDJ.out q h0 hq)).keep HO13.out fun h0 q hq _ => hS9 q (HDJ.out q h0 hq)
                    exact ⟨j + 1, _, updI (updI D v none) b (some (dl, vv)), fSet LV b (.slice dA dl.length dc), HLT.out, by go_num, HC12.out.offMap HM12.out HNE.out.1 HNE.out.2.1 HNE.out.2.2.2.2.2.1 HO13.out, HM13.out, lastOf_set (lastOf_less ((HI7.out.la.keep HO12.out HS8.out).keep HO13.out hS9)) hb13 (fun h0 q hq => HDJ.out q h0 hq), HAGE.out, HO13.out.box HCF12.out HNE.out.2.2.1, (HI7.out.o.trans' HO12.out fun q hq => .inr (HSF.out q hq)).trans' HO13.out fun q hq => .inr (by rw [show q = lb from hq]; exact HBS.out.2.2.1)⟩
                  case measure => simp [intOf]; have := HLT.out; omega
                · have h5b : (c.f 5 != 2) = true := by simp [h5]
                  have hlt9 : ¬ (n0 : Int) < f9 := by have := hrm h5; omega
                  clear hrm h5
                  generalize c.f 5 = f5 at *
                  go_wp2_with (refine wpList_put_i W12 rfl _ _ _ rfl lawB Try.underlying3 lb LV b (.slice dA dl.length dc) rfl rfl rfl HM12.out HBI.out ?_; intro W13 hm13 ho13; have HM13 := Lib.hid hm13; have HO13 := Lib.hid ho13; clear hm13 ho13)
                  go_roundw
                  case rel =>
                    have hS9 : ∀ q, q < w.heap.size → ¬ Just lb q := fun q hq e => by have h : q = lb := e; have := HBS.out.2.2.1; omega
                    have hb13 : Byt W13 (.slice dA dl.length dc) dl := (HBY7.out.keep HO12.out fun h0 q hq _ => HS8.out q (HDJ.out q h0 hq)).keep HO13.out fun h0 q hq _ => hS9 q (HDJ.out q h0 hq)
                    exact ⟨j + 1, _, updI (updI D v none) b (some (dl, vv)), fSet LV b (.slice dA dl.length dc), HLT.out, by go_num, HC12.out.offMap HM12.out HNE.out.1 HNE.out.2.1 HNE.out.2.2.2.2.2.1 HO13.out, HM13.out, lastOf_set (lastOf_less ((HI7.out.la.keep HO12.out HS8.out).keep HO13.out hS9)) hb13 (fun h0 q hq => HDJ.out q h0 hq), HAGE.out, HO13.out.box HCF12.out HNE.out.2.2.1, (HI7.out.o.trans' HO12.out fun q hq => .inr (HSF.out q hq)).trans' HO13.out fun q hq => .inr (by rw [show q = lb from hq]; exact HBS.out.2.2.1)⟩
                  case measure => simp [intOf]; have := HLT.out; omega
            · have HP := Lib.hid (show Calls Try.prog 11 #[.pointer (some ⟨cb, 0, none⟩), .agg #[.int .i64 b, .slice dA dl.length dc], .int .i64 level] W7 fun e w' => e = .returned (.tuple #[.agg zF, .bool false, .int .i64 (putCode c k b dl.length level)]) ∧ Only Non W7 w' from by
                obtain rfl := HKK.out
                exact put_refused HI7.out.ch HBY7.out level hcode)
              have hcb2 : (putCode c k b dl.length level == 0) = false := by simpa using hcode
              generalize putCode c k b dl.length level = cd at *
              clear hcode
              go_upto_region 18 with (first | (go_at_call 11; refine HP.out.mono ?_; rintro e W8 ⟨rfl, ho8⟩) | (refine wpList_store_row rfl 36 _ _ rfl W8.heap.size zF rfl rfl 36 _ (Box.fresh W8 36 zF) (by kernel_rfl) rfl (by simp [zF, Value.oneCell']) ?_))
              have ho9 : Only Non W7 ((W8.alloc (.cells zF 36)).setRow W8.heap.size zF) := (ho8.alloc _).setRow' (.inr ho8.size) _
              change Code.wp _ _ _ _ ((W8.alloc (.cells zF 36)).setRow W8.heap.size zF)
              generalize (W8.alloc (.cells zF 36)).setRow W8.heap.size zF = W9 at *
              clear ho8 z1 z2 z3
              go_wp2
              go_roundw
              case rel => exact ⟨j + 1, s, D, LV, HLT.out, by go_num, HI7.out.ch.keep ho9, HI7.out.mp.keep ho9, HI7.out.la.keep ho9 fun _ _ => id, by have := HI7.out.age; omega, ho9.box HI7.out.cf id, HI7.out.o.trans ho9⟩
              case measure => simp [intOf]; have := HLT.out; omega
        · obtain rfl : j = L.length := by omega
          clear hlt hj
          go_wp2
          go_ret
          exact ⟨rfl, HI.out.o⟩
    · have HN := Lib.hid (cch_new_no hP (t : Int) W3 (HIN.out.keep HO3.out))
      clear hP e7
      go_wp2_with (first | (refine wpList_load_row rfl 25 _ rfl cfb rfl 25 (cfgCells c (.slice A c.h.length m)) (0, 0) _ HB3.out Try.underlying25 rfl (by kernel_rfl) ?_) | (go_at_call 8; refine HN.out.mono ?_; rintro e W4 ⟨rfl, ho4⟩))
      go_ret
      exact ⟨rfl, HO3.out.trans ho4⟩
end
end Go.Proofs.Ytdjjlglmhbmnlaa

/- CacheBound, walked. -/
namespace Go.Proofs.Ytdjjlglmhbmnlaa
open Go.RowKit Go.ChangeShapes Go.WideShapes
set_option linter.unusedVariables false
set_option linter.unusedSimpArgs false
/-- what Put does at any frame -/
def PutU (K : OKind) (i : K.ι) (cb mb : Nat) (c : CfgA) (hv : Value) (tier : Nat) (s : K.σ) (D : Int → Option Blk) (b : Int) (dl : List Int) (w : World) (e : Ending) (w' : World) : Prop :=
  ∃ (s' : K.σ) (D' : Int → Option Blk) (v : Int) (vd : Value) (g : Bool) (cd : Int), e = .returned (.tuple #[.agg #[.int .i64 v, vd], .bool g, .int .i64 cd]) ∧ vd.oneCell' = true ∧ CchB K i w' cb mb c hv tier s' D' ∧ K.sp.age s' ≤ K.sp.age s + 1 ∧
    (cd ≠ 0 → D' = D) ∧ (cd = 0 → I64 b ∧ ∀ y l v', D' y = some (l, v') → (y = b ∧ l = dl) ∨ (y ≠ b ∧ D y = some (l, v'))) ∧ Only (CF2 (K.F i) mb) w w'
theorem put_u {c : CfgA} {k : Nat} {hP : CfgP c} {hk : k < 3} {i : (kOf c k hP hk).ι} {w : World} {cb mb : Nat} {hv : Value} {s : (kOf c k hP hk).σ} {D : Int → Option Blk} {b : Int} {dl : List Int} {dv : Value}
    (h : CchB (kOf c k hP hk) i w cb mb c hv (k + 1) s D) (hby : Byt w dv dl) (hdv : 0 < dl.length → ∀ j, ownB dv j → ¬ (kOf c k hP hk).F i j ∧ j ≠ mb) (level : Int) (hage : (kOf c k hP hk).sp.age s < maxAge) :
    Calls Try.prog 11 #[.pointer (some ⟨cb, 0, none⟩), .agg #[.int .i64 b, dv], .int .i64 level] w (PutU (kOf c k hP hk) i cb mb c hv (k + 1) s D b dl w) := by
  have h2 := h.right.p2
  have h3 := h.right.p3
  by_cases hc : putCode c k b dl.length level = 0
  · have hz := putCode_zero hc
    have hA := ((kOf c k hP hk).oc i).ageA s b
    have hI : I64 b := ⟨by omega, by omega⟩
    rcases put_split h hz.2.2.1 (by omega) (takesB_sp hz.1) (put_done h hby (hdv (by omega)) level hc hage) with ⟨_, hp⟩ | ⟨v, l0, vd, _, hD, _, _, _, hp⟩
    · refine hp.mono fun e w' ⟨he, vv, hc', _, ho⟩ => ⟨_, _, 0, .slice none 0 0, false, 0, he, rfl, hc', hA, fun h => absurd rfl h, fun _ => ⟨hI, fun y l v' hy => ?_⟩, ho⟩
      unfold updI at hy
      split at hy
      · rename_i e2
        injection hy with hy; injection hy with e1 _
        exact .inl ⟨e2, e1.symm⟩
      · rename_i e2
        exact .inr ⟨e2, hy⟩
    · obtain ⟨_, _, g0, ca0, hvd, _⟩ := h.dat v l0 vd hD
      refine hp.mono fun e w' ⟨he, vv, hc', _, ho⟩ => ⟨_, _, v, vd, true, 0, he, by rw [hvd]; rfl, hc', hA, fun h => absurd rfl h, fun _ => ⟨hI, fun y l v' hy => ?_⟩, ho⟩
      unfold updI at hy
      split at hy
      · rename_i e2
        injection hy with hy; injection hy with e1 _
        exact .inl ⟨e2, e1.symm⟩
      · rename_i e2
        split at hy
        · cases hy
        · exact .inr ⟨e2, hy⟩
  · exact (put_refused h hby level hc).mono fun e w' ⟨he, ho⟩ => ⟨s, D, 0, .slice none 0 0, false, _, he, rfl, h.keep ho, Nat.le_succ _, fun _ => rfl, fun h => absurd h hc, ho.mono fun _ hk => hk.elim⟩
structure CvJ (K : OKind) (i : K.ι) (base : Nat) (c : CfgA) (k cb mb lb cfb : Nat) (hv cv : Value) (a : Nat) (w : World) (s : K.σ) (D : Int → Option Blk) (LV : Int → Option Value) (wr : World) : Prop where
  ch : CchB K i wr cb mb c hv (k + 1) s D
  mp : MapI wr lb LV
  la : LastOf base wr D LV
  age : K.sp.age s ≤ a
  cf : Box wr cfb 25 (cfgCells c cv)
  o : Only Non w wr
def CbRel (K : OKind) (i : K.ι) (base : Nat) (c : CfgA) (k cb mb lb cfb : Nat) (hv cv : Value) (a : Nat) (w wr : World) : Prop :=
  ∃ (s : K.σ) (D : Int → Option Blk) (LV : Int → Option Value), CvJ K i base c k cb mb lb cfb hv cv a w s D LV wr
def CaRel (K : OKind) (i : K.ι) (base : Nat) (c : CfgA) (k cb mb lb cfb : Nat) (hv cv : Value) (a : Nat) (w : World) (s0 : K.σ) (D : Int → Option Blk) (LV : Int → Option Value) (N : Nat) (ov iv : Value) (wr : World) : Prop :=
  ∃ (q : Nat) (s : K.σ), q ≤ N ∧ iv = .int .i64 q ∧ (∀ y, y ∈ K.sp.all s ↔ y ∈ K.sp.all s0) ∧ IntsAt wr ov (K.sp.all s0) ∧ CvJ K i base c k cb mb lb cfb hv cv (a + q) w s D LV wr
section
set_option maxHeartbeats 4000000
set_option maxRecDepth 100000
theorem bound_walk (c : CfgA) (L : List ActC) (A B : Option Addr) (m n : Nat) (x : Nat) (w : World) (hin : HintsAt w A c.h.length m c.h) (hL : CActsAt w.heap.size w B L.length n L) (hx : x ≤ 255) :
    Calls Try.prog 4 #[.agg (cfgCells c (.slice A c.h.length m)), .int .u8 x, .slice B L.length n] w fun e w' => e = .returned (.bool true) ∧ Only Non w w' := by
  have HIN := Lib.hid hin
  have HL := Lib.hid hL
  have hmx := Nat.le_trans hL.cap hL.max
  have hmh := Nat.le_trans hin.cap hin.max
  have HMX := Lib.hid hmx
  have HMH := Lib.hid hmh
  have HB := Lib.hid (Box.fresh w 25 (cfgCells c (.slice A c.h.length m)))
  have HO := Lib.hid ((Only.refl Non w).alloc (.cells (cfgCells c (.slice A c.h.length m)) 25))
  have ek : ∃ k : Nat, k < 3 ∧ k = x % 3 := ⟨x % 3, Nat.mod_lt _ (by decide), rfl⟩
  obtain ⟨k, hk, hkx⟩ := ek
  have HKX := Lib.hid hkx
  have HK := Lib.hid hk
  clear hin hL hmx hmh hkx hk
  go_enter Try.func4, Try.ntmps4
  go_upto_region 1 with fail
  change Code.wp _ _ _ _ (w.alloc (.cells (cfgCells c (.slice A c.h.length m)) 25))
  generalize w.alloc (.cells (cfgCells c (.slice A c.h.length m)) 25) = W1 at *
  obtain ⟨cfb, hcf⟩ : ∃ cfb, cfb = w.heap.size := ⟨_, rfl⟩
  have HCF := Lib.hid (show w.heap.size ≤ cfb from Nat.le_of_eq hcf.symm)
  rw [← hcf] at HB ⊢
  clear hcf
  go_upto_region 3 with (go_at_call 6; refine (wakes_any W1).mono ?_; rintro e W2 ⟨rfl, ho2⟩)
  have HB2 := Lib.hid (ho2.box HB.out id)
  have HO2 := Lib.hid (HO.out.trans ho2)
  clear ho2 HB HO
  have HLG := Lib.hid (long_any (cf := c) (A := A) (m := m) (HL.out.keep HO2.out) HMH.out)
  go_upto_if 24 with (first | (refine wpList_load_row rfl 25 _ rfl cfb rfl 25 (cfgCells c (.slice A c.h.length m)) (0, 0) _ HB2.out Try.underlying25 rfl (by kernel_rfl) ?_) | (go_at_call 7; refine HLG.out.mono ?_; rintro e W3 ⟨rfl, ho3⟩))
  have HB3 := Lib.hid (ho3.box HB2.out id)
  have HO3 := Lib.hid (HO2.out.trans ho3)
  clear ho3 HB2 HO2 HLG
  cases hlb : longB c.h.length L with
  | true =>
    clear hlb
    go_wp2
    go_ret
    exact ⟨rfl, HO3.out⟩
  | false =>
    obtain ⟨hl1, hl2, hl3⟩ := longB_no hlb
    have HL1 := Lib.hid hl1
    have HL3 := Lib.hid hl3
    clear hlb hl1 hl3
    go_upto_region 6 with fail
    obtain ⟨t, ht⟩ : ∃ t : Nat, t = k + 1 := ⟨_, rfl⟩
    have e7 : (1 + (x : Int) % 3) = (t : Int) := by rw [ht, HKX.out]; omega
    rw [e7]
    have HT := Lib.hid ht
    have htk : IntKind.i64.wrap ((t : Int) - 1) = k := by rw [ht, IntKind.wrap_i64]; have := HK.out; omega
    have HTK := Lib.hid htk
    clear ht htk
    by_cases hP : CfgP c
    · have HN := Lib.hid (show Calls Try.prog 8 #[.agg (cfgCells c (.slice A c.h.length m)), .int .i64 t] W3 (NPost (kOf c k hP HK.out) c (k + 1) W3) by
        have := cch_new (kOf_made hP HK.out) hP (by omega) (by have := HK.out; omega) W3 (HIN.out.keep HO3.out)
        rw [HT.out]; exact this)
      have HA0 := Lib.hid (kOf_age0 (hP := hP) (hk := HK.out))
      generalize hK : kOf c k hP HK.out = K at *
      have HKK := Lib.hid hK
      clear hK e7
      go_upto_region 9 with (first | (refine wpList_load_row rfl 25 _ rfl cfb rfl 25 (cfgCells c (.slice A c.h.length m)) (0, 0) _ HB3.out Try.underlying25 rfl (by kernel_rfl) ?_) | (go_at_call 8; refine HN.out.mono ?_; rintro e W4 ⟨i, cb, mb, hv, rfl, hc4, hF4, hcb4, hmb4, _, ho4⟩; have HC4 := Lib.hid hc4; have HF4 := Lib.hid hF4; have HL4 := Lib.hid (show W3.heap.size ≤ cb ∧ W3.heap.size ≤ mb from ⟨hcb4, hmb4⟩); have HB4 := Lib.hid (ho4.box HB3.out id); have HO4 := Lib.hid (HO3.out.trans ho4); clear hc4 hF4 hcb4 hmb4 ho4))
      have hmk := @run_makeMap Try.prog
      go_upto_region 10 with fail
      have HM5 := Lib.hid (MapI.made W4)
      have HO45 := Lib.hid ((Only.refl Non W4).alloc (.map #[] 0))
      have HLB := Lib.hid (show cb < W4.heap.size ∧ mb < W4.heap.size ∧ cfb < W4.heap.size ∧ (∀ j, K.F i j → j < W4.heap.size) from ⟨HC4.out.box.lt, HC4.out.map.lt, HB4.out.lt, (K.oc i).lt HC4.out.ord⟩)
      change Code.wp _ _ _ _ (W4.alloc (.map #[] 0))
      generalize W4.alloc (.map #[] 0) = W5 at *
      generalize W4.heap.size = lb at *
      have HC5 := Lib.hid (HC4.out.keep HO45.out)
      have HB5 := Lib.hid (HO45.out.box HB4.out id)
      have HO5 := Lib.hid (HO4.out.trans HO45.out)
      have HBS := Lib.hid (show w.heap.size ≤ cb ∧ w.heap.size ≤ mb ∧ w.heap.size ≤ lb ∧ (∀ j, K.F i j → w.heap.size ≤ j) from by
        have h1 := HO3.out.size
        have h2 := HL4.out
        have h3 := HLB.out
        exact ⟨by omega, by omega, by omega, fun j hj => by have := HF4.out j hj; omega⟩)
      have HNE := Lib.hid (show cb ≠ lb ∧ mb ≠ lb ∧ cfb ≠ lb ∧ cfb ≠ mb ∧ cfb ≠ cb ∧ ¬ K.F i lb ∧ ¬ K.F i cfb from by
        have h2 := HL4.out
        have h3 := HLB.out
        have h4 := HB3.out.lt
        exact ⟨by omega, by omega, by omega, by omega, by omega, fun h => by have := h3.2.2.2 _ h; omega, fun h => by have := HF4.out _ h; omega⟩)
      clear hmk HC4 HF4 HL4 HB4 HO4 HN HO45 HLB HB3 HO3
      go_upto_region 11 with fail
      go_loopw [40] (fun iv wr => CvRel K i w.heap.size c k cb mb lb cfb hv (.slice A c.h.length m) L.length w iv wr) (fun iv _ => L.length - (intOf iv).toNat)
      case atStart => exact ⟨0, K.s0, fun _ => none, fun _ => none, Nat.zero_le _, rfl, HC5.out, HM5.out, fun b l v h => (by cases h), by rw [HA0.out]; exact Nat.zero_le _, HB5.out, HO5.out⟩
      case round =>
        clear HC5 HM5 HB5 HO5
        obtain ⟨j, s, D, LV, hj, rfl, hI⟩ := hrel
        have HI := Lib.hid hI
        clear hI
        by_cases hlt : j < L.length
        · obtain ⟨g, o, dv, rfl, hg, hcl, hby, hdj⟩ := (HL.out.keep HI.out.o).at_ j hlt
          have hd100 := HL3.out j hlt
          have hltj : (j : Int) < L.length := by omega
          have HLT := Lib.hid hlt
          have HBY := Lib.hid hby
          have HDJ := Lib.hid hdj
          have HD100 := Lib.hid hd100
          have HCL := Lib.hid hcl
          clear hcl hby hdj hlt hj hd100
          generalize L.getD j default = a at *
          obtain ⟨kind, level, b, dl⟩ := a
          obtain ⟨dA, dc, rfl, _⟩ := id HBY.out
          have y0 : wr.cell? ⟨g, o + j * 4, none⟩ = some (.int .i64 kind) := HCL.out 0 _ rfl
          have y1 : wr.cell? ⟨g, o + j * 4 + 1, none⟩ = some (.int .i64 level) := HCL.out 1 _ rfl
          have y2 : wr.cell? ⟨g, o + j * 4 + 2, none⟩ = some (.int .i64 b) := HCL.out 2 _ rfl
          have y3 : wr.cell? ⟨g, o + j * 4 + 3, none⟩ = some (.slice dA dl.length dc) := HCL.out 3 _ rfl
          clear HCL
          go_upto_region 13 with (refine wpList_store_row rfl 38 _ _ rfl wr.heap.size (actC ⟨kind, level, b, dl⟩ (.slice dA dl.length dc)) rfl rfl 38 _ (Box.fresh wr 38 zAc) (by kernel_rfl) rfl (by simp [actC, Value.oneCell']) ?_)
          have ho6 : Only Non wr ((wr.alloc (.cells zAc 38)).setRow wr.heap.size (actC ⟨kind, level, b, dl⟩ (.slice dA dl.length dc))) := ((Only.refl Non wr).alloc _).setRow' (.inr (Nat.le_refl _)) _
          have hb6 := (Box.fresh wr 38 zAc).setRow' (actC ⟨kind, level, b, dl⟩ (.slice dA dl.length dc))
          have HA6 := Lib.hid hb6
          have HO6 := Lib.hid ho6
          have HSZ := Lib.hid (show w.heap.size ≤ wr.heap.size from HI.out.o.size)
          change Code.wp _ _ _ _ ((wr.alloc (.cells zAc 38)).setRow wr.heap.size (actC ⟨kind, level, b, dl⟩ (.slice dA dl.length dc)))
          clear y0 y1 y2 y3 ho6 hb6
          generalize (wr.alloc (.cells zAc 38)).setRow wr.heap.size (actC ⟨kind, level, b, dl⟩ (.slice dA dl.length dc)) = W6 at *
          obtain ⟨ab, hab⟩ : ∃ ab, ab = wr.heap.size := ⟨_, rfl⟩
          have HAB := Lib.hid (show w.heap.size ≤ ab ∧ ab ≠ mb ∧ ab ≠ cb ∧ ab ≠ lb ∧ ¬ K.F i ab from by
            have h1 := HSZ.out; have h2 := HI.out.ch.map.lt; have h3 := HI.out.ch.box.lt; have h4 := HI.out.mp.lt
            exact ⟨by omega, by omega, by omega, by omega, fun h => by have := (K.oc i).lt HI.out.ch.ord _ h; omega⟩)
          rw [← hab] at HA6 ⊢
          clear hab
          have HI6 := Lib.hid (show CvI K i w.heap.size c k cb mb lb cfb hv (.slice A c.h.length m) j w s D LV W6 from ⟨HI.out.ch.keep HO6.out, HI.out.mp.keep HO6.out, HI.out.la.keep HO6.out fun _ _ => id, HI.out.age, HO6.out.box HI.out.cf id, HI.out.o.trans HO6.out⟩)
          have HBY6 := Lib.hid (HBY.out.keep HO6.out fun _ _ _ _ => id)
          clear HI HO6 HBY
          have z0 : W6.cell? ⟨ab, 0, none⟩ = some (.int .i64 kind) := HA6.out.cellAt rfl
          have z1 : W6.cell? ⟨ab, 1, none⟩ = some (.int .i64 level) := HA6.out.cellAt rfl
          have z2 : W6.cell? ⟨ab, 2, none⟩ = some (.int .i64 b) := HA6.out.cellAt rfl
          have z3 : W6.cell? ⟨ab, 3, none⟩ = some (.slice dA dl.length dc) := HA6.out.cellAt rfl
          have hage : K.sp.age s < maxAge := by have := HI6.out.age; have := HLT.out; unfold maxAge; omega
          have HPU := Lib.hid (show Calls Try.prog 11 #[.pointer (some ⟨cb, 0, none⟩), .agg #[.int .i64 b, .slice dA dl.length dc], .int .i64 level] W6 (PutU K i cb mb c hv (k + 1) s D b dl W6) from by
            obtain rfl := HKK.out
            exact put_u HI6.out.ch HBY6.out (fun h0 q hq => by
              have h1 := HDJ.out q h0 hq
              have h2 := HBS.out
              exact ⟨fun h => by have := h2.2.2.2 q h; omega, by omega⟩) level hage)
          have hbs := HBS.out
          have HSF := Lib.hid (show ∀ q, CF2 (K.F i) mb q → w.heap.size ≤ q from fun q hq => hq.elim (hbs.2.2.2 q) fun e => by rw [e]; exact hbs.2.1)
          have HNF := Lib.hid (show ¬ CF2 (K.F i) mb ab ∧ ¬ CF2 (K.F i) mb lb ∧ ¬ CF2 (K.F i) mb cfb from ⟨fun e => e.elim HAB.out.2.2.2.2 HAB.out.2.1, fun e => e.elim HNE.out.2.2.2.2.2.1 fun e => HNE.out.2.1 e.symm, fun e => e.elim HNE.out.2.2.2.2.2.2 HNE.out.2.2.2.1⟩)
          have hk3 : (k : Int) < 3 := by have := HK.out; omega
          clear hage hbs
          go_upto_region 14 with (first | (go_at_call 11; refine HPU.out.mono ?_; rintro e W8 ⟨s', D', v, vd, gg, cd, rfl, hv1, hc8, ha8, hd8, hd8', ho8⟩; have HV1 := Lib.hid hv1; have HC8 := Lib.hid hc8; have HA8 := Lib.hid ha8; have HD8 := Lib.hid hd8; have HD8' := Lib.hid hd8'; have HO8 := Lib.hid ho8; clear hv1 hc8 ha8 hd8 hd8' ho8) | (refine wpList_store_row rfl 36 _ _ rfl W8.heap.size #[.int .i64 v, vd] rfl rfl 36 _ (Box.fresh W8 36 zF) (by kernel_rfl) rfl (by have := HV1.out; simp [Value.oneCell'] at this ⊢; exact this) ?_))
          have ho9 : Only Non W8 ((W8.alloc (.cells zF 36)).setRow W8.heap.size #[.int .i64 v, vd]) := ((Only.refl Non W8).alloc _).setRow' (.inr (Nat.le_refl _)) _
          change Code.wp _ _ _ _ ((W8.alloc (.cells zF 36)).setRow W8.heap.size #[.int .i64 v, vd])
          have HC9 := Lib.hid (HC8.out.keep ho9)
          have HO9 := Lib.hid (HO8.out.transN ho9)
          generalize (W8.alloc (.cells zF 36)).setRow W8.heap.size #[.int .i64 v, vd] = W9 at *
          clear ho9 z0 z1 z2 z3 HC8 HO8 HPU
          have hA9 := HO9.out.box HA6.out HNF.out.1
          have z2 : W9.cell? ⟨ab, 2, none⟩ = some (.int .i64 b) := hA9.cellAt rfl
          have z3 : W9.cell? ⟨ab, 3, none⟩ = some (.slice dA dl.length dc) := hA9.cellAt rfl
          have HM9 := Lib.hid (HI6.out.mp.only HO9.out HNF.out.2.1)
          clear hA9
          have HS8 := Lib.hid (show ∀ q, q < w.heap.size → ¬ CF2 (K.F i) mb q from fun q hq e => by have := HSF.out q e; omega)
          have HLA9 := Lib.hid (HI6.out.la.keep HO9.out HS8.out)
          have HB9 := Lib.hid (HBY6.out.keep HO9.out fun h0 q hq _ => HS8.out q (HDJ.out q h0 hq))
          have HCF9 := Lib.hid (HO9.out.box HI6.out.cf HNF.out.2.2)
          have HW9 := Lib.hid (HI6.out.o.trans' HO9.out fun q hq => .inr (HSF.out q hq))
          have HAG9 := Lib.hid (show K.sp.age s' ≤ 40 * j + 1 by have := HI6.out.age; have := HA8.out; omega)
          go_upto_if 55 with fail
          go_cut [] (fun wx => CbRel K i w.heap.size c k cb mb lb cfb hv (.slice A c.h.length m) (40 * j + 1) w wx)
          case first =>
            by_cases hcd : cd = 0
            · obtain ⟨hI, hd⟩ := HD8'.out hcd
              have HII := Lib.hid hI
              have HDD := Lib.hid hd
              subst hcd
              clear hI hd
              go_wp2_with (refine wpList_put_i W9 rfl _ _ _ rfl lawB Try.underlying3 lb LV b (.slice dA dl.length dc) rfl rfl rfl HM9.out HII.out ?_; intro W10 hm10 ho10; have HM10 := Lib.hid hm10; have HO10 := Lib.hid ho10; clear hm10 ho10)
              go_meet
              case rel =>
                have hS9 : ∀ q, q < w.heap.size → ¬ Just lb q := fun q hq e => by have h : q = lb := e; have := HBS.out.2.2.1; omega
                refine ⟨s', D', fSet LV b (.slice dA dl.length dc), HC9.out.offMap HM9.out HNE.out.1 HNE.out.2.1 HNE.out.2.2.2.2.2.1 HO10.out, HM10.out, fun y l v' hy => ?_, HAG9.out, HO10.out.box HCF9.out HNE.out.2.2.1, HW9.out.trans' HO10.out fun q hq => .inr (by rw [show q = lb from hq]; exact HBS.out.2.2.1)⟩
                rcases HDD.out y l v' hy with ⟨e1, e2⟩ | ⟨e1, e2⟩
                · rw [e1, e2]
                  exact ⟨_, fSet_self _ _ _, HB9.out.keep HO10.out fun h0 q hq _ => hS9 q (HDJ.out q h0 hq), fun h0 q hq => HDJ.out q h0 hq⟩
                · rw [fSet_ne _ _ e1]
                  exact HLA9.out.keep HO10.out hS9 y l v' e2
            · have hcdb : (cd == 0) = false := by simpa using hcd
              have HDD := Lib.hid (HD8.out hcd)
              clear hcd
              go_wp2
              go_meet
              case rel => exact ⟨s', D', LV, HC9.out, HM9.out, by rw [HDD.out]; exact HLA9.out, HAG9.out, HCF9.out, HW9.out⟩
          case rest =>
            clear HC9 HO9 HM9 HLA9 HB9 HCF9 HW9 HAG9 HD8 HD8' HA8 HI6 HBY6 HA6 z2 z3
            obtain ⟨s1, D1, LV1, hJ⟩ := hcut
            have HJ := Lib.hid hJ
            have HCAP := Lib.hid (show ((K.sp.all s1).length : Int) ≤ c.f (9 + k) from by
              have h1 := hJ.ch.ord
              obtain rfl := HKK.out
              exact kOf_cap h1)
            clear hJ
            obtain ⟨W8, e8⟩ : ∃ W8, W8 = wc := ⟨_, rfl⟩
            subst e8
            go_upto_region 16 with fail
            have HLEN := Lib.hid (fun (W : World) (hW : Only Non W8 W) => cch_len (HJ.out.ch.keep hW))
            have k1 : W8.drew.cell? ⟨cfb, 9 + k, none⟩ = some (.int .i64 (c.f (9 + k))) := HJ.out.cf.cellAt (cfgCells_at c _ (by have := HK.out; omega))
            have HFK := Lib.hid (HJ.out.ch.right.pc k HK.out)
            generalize hf9 : c.f (9 + k) = f9 at *
            generalize hn1 : (K.sp.all s1).length = n1 at *
            have HN1 := Lib.hid hn1
            have HF9 := Lib.hid hf9
            have htk := HTK.out
            clear hn1 hf9
            refine wp_region_tail (S := (fun w' : World => w'.cell? ⟨cfb, 9 + k, none⟩ = some (.int .i64 f9))) 7 (by kernel_rfl) (by kernel_rfl) ?_ ?_
            · assumption
            intro hSS
            refine wpHd_take (i := 0) (v := ?_) (by kernel_rfl) rfl (by kernel_rfl) (fun _ _ _ h => h) (Or.inl ⟨by rfl, ?_⟩) (by assumption) ?_
            rotate_left
            · intro w hSw; (try dsimp only at hSw); go_simp; (try with_reducible rfl)
            try simp only [Act.put, List.getElem_toArray, List.getElem_cons_succ, List.getElem_cons_zero, List.setIfInBounds_toArray, List.set_cons_zero, List.set_cons_succ]
            refine wpHd_take (i := 2) (v := ?_) (by kernel_rfl) rfl (by kernel_rfl) (fun _ _ _ h => h) (Or.inl ⟨by rfl, ?_⟩) (by assumption) ?_
            rotate_left
            · intro w hSw; (try dsimp only at hSw); go_simp; (try with_reducible rfl)
            try simp only [Act.put, List.getElem_toArray, List.getElem_cons_succ, List.getElem_cons_zero, List.setIfInBounds_toArray, List.set_cons_zero, List.set_cons_succ]
            refine wpHd_take (i := 3) (v := ?_) (by kernel_rfl) rfl (by kernel_rfl) (fun _ _ _ h => h) (Or.inl ⟨by rfl, ?_⟩) (by assumption) ?_
            rotate_left
            · intro w hSw; (try dsimp only at hSw); go_simp; (try with_reducible rfl)
            try simp only [Act.put, List.getElem_toArray, List.getElem_cons_succ, List.getElem_cons_zero, List.setIfInBounds_toArray, List.set_cons_zero, List.set_cons_succ]
            refine wpHd_take (i := 4) (v := ?_) (by kernel_rfl) rfl (by kernel_rfl) (fun _ _ _ h => h) (Or.inl ⟨by rfl, ?_⟩) (by assumption) ?_
            rotate_left
            · intro w hSw; (try dsimp only at hSw); go_simp; (try with_reducible rfl)
            try simp only [Act.put, List.getElem_toArray, List.getElem_cons_succ, List.getElem_cons_zero, List.setIfInBounds_toArray, List.set_cons_zero, List.set_cons_succ]
            refine wpHd_take (i := 5) (v := ?_) (by kernel_rfl) rfl (by kernel_rfl) (fun _ _ _ h => h) (Or.inl ⟨by rfl, ?_⟩) (by assumption) ?_
            rotate_left
            · intro w hSw; (try dsimp only at hSw); go_simp; (try with_reducible rfl)
            try simp only [Act.put, List.getElem_toArray, List.getElem_cons_succ, List.getElem_cons_zero, List.setIfInBounds_toArray, List.set_cons_zero, List.set_cons_succ]
            refine wpHd_take (i := 6) (v := ?_) (by kernel_rfl) rfl (by kernel_rfl) (fun _ _ _ h => h) (Or.inl ⟨by rfl, ?_⟩) (by assumption) ?_
            rotate_left
            · intro w hSw; (try dsimp only at hSw); go_simp; (try with_reducible rfl)
            try simp only [Act.put, List.getElem_toArray, List.getElem_cons_succ, List.getElem_cons_zero, List.setIfInBounds_toArray, List.set_cons_zero, List.set_cons_succ]
            refine wpHd_one (i := 1) rfl (by kernel_rfl) (fun Kc hK => ?_)
            go_simp
            refine (HLEN.out W8.drew ((Only.refl Non W8).drew)).mono ?_
            rintro e W9 ⟨rfl, ho9⟩
            have HO9 := Lib.hid ((Only.refl Non W8).drew.trans ho9)
            have k1 := ho9.cell hSS id
            clear ho9
            refine hK.out _ _ ?_ (fun hSS => ?_)
            · assumption
            clear hK
            try simp only [Act.put, List.getElem_toArray, List.getElem_cons_succ, List.getElem_cons_zero, List.setIfInBounds_toArray, List.set_cons_zero, List.set_cons_succ]
            refine wpHd_end (by kernel_rfl) ?_
            have hcap : ¬ f9 < (n1 : Int) := by have := HCAP.out; omega
            clear hSS k1 htk
            go_upto_region 18 with fail
            have HJ9 := Lib.hid (show CvJ K i w.heap.size c k cb mb lb cfb hv (.slice A c.h.length m) (40 * j + 1) w s1 D1 LV1 W9 from ⟨HJ.out.ch.keep HO9.out, HJ.out.mp.keep HO9.out, HJ.out.la.keep HO9.out fun _ _ => id, HJ.out.age, HO9.out.box HJ.out.cf id, HJ.out.o.trans HO9.out⟩)
            have HALL := Lib.hid (cch_all HJ9.out.ch)
            clear HJ HLEN HO9 hcap
            have HN16 := Lib.hid (show n1 ≤ 16 by have := HCAP.out; have := HFK.out; omega)
            go_upto_region 19 with (go_at_call 14; refine HALL.out.mono ?_; rintro e W10 ⟨ov, rfl, hov, ho10⟩; obtain ⟨oA, oc, eov, _⟩ := hov.shape; rw [HN1.out] at eov; have HOV := Lib.hid hov; have HOVB := Lib.hid (show ∀ q, ownB ov q → W9.heap.size ≤ q from fun q hq => (hov.lt q hq).1); clear hov; subst eov)
            have HJ10 := Lib.hid (show CvJ K i w.heap.size c k cb mb lb cfb hv (.slice A c.h.length m) (40 * j + 1) w s1 D1 LV1 W10 from ⟨HJ9.out.ch.keep ho10, HJ9.out.mp.keep ho10, HJ9.out.la.keep ho10 fun _ _ => id, HJ9.out.age, ho10.box HJ9.out.cf id, HJ9.out.o.trans ho10⟩)
            have HFLT := Lib.hid (show ∀ q, K.F i q → q < W9.heap.size from (K.oc i).lt HJ9.out.ch.ord)
            clear ho10 HALL HJ9
            go_loopw [74] (fun iv wx => CaRel K i w.heap.size c k cb mb lb cfb hv (.slice A c.h.length m) (40 * j + 1) w s1 D1 LV1 n1 (.slice oA n1 oc) iv wx) (fun iv _ => n1 - (intOf iv).toNat)
            case atStart => exact ⟨0, s1, Nat.zero_le _, rfl, fun _ => Iff.rfl, HOV.out.at, HJ10.out⟩
            case round =>
              clear HJ10 HOV
              obtain ⟨q, s, hq, rfl, hmem, hint, hJ⟩ := hrel
              have HM := Lib.hid hmem
              have HIT := Lib.hid hint
              have HJ := Lib.hid hJ
              clear hmem hint hJ
              by_cases hlt : q < n1
              · have hql : q < (K.sp.all s1).length := by rw [HN1.out]; exact hlt
                obtain ⟨og, oo, rfl, xo⟩ := HIT.out.cellAt hql
                have hin : (K.sp.all s1).getD q 0 ∈ K.sp.all s1 := by simp [hql]
                generalize (K.sp.all s1).getD q 0 = x at *
                obtain ⟨⟨l0, vd⟩, hDx⟩ := Option.isSome_iff_exists.1 ((HJ.out.ch.keys x).2 ((HM.out x).2 hin))
                obtain ⟨lu, hlu1, hlu2, hlu3⟩ := HJ.out.la x l0 vd hDx
                obtain ⟨lA, lc, rfl, _⟩ := id hlu2
                have hxr := (K.oc i).rng HJ.out.ch.ord (HJ.out.ch.in_ hDx)
                have HXI := Lib.hid (show I64 x from ⟨by omega, by omega⟩)
                have HU := Lib.hid (cch_use_in HJ.out.ch hDx (by have := HJ.out.age; have := HLT.out; have := HN16.out; unfold maxAge; omega))
                have HUL := Lib.hid ((K.oc i).useL HJ.out.ch.ord (HJ.out.ch.in_ hDx))
                have HUA := Lib.hid ((K.oc i).ageU s x)
                have HLU1 := Lib.hid hlu1
                have HLU2 := Lib.hid hlu2
                have HLU3 := Lib.hid hlu3
                have hltq : (q : Int) < n1 := by omega
                have HLQ := Lib.hid hlt
                have HL140 := Lib.hid (show l0.length ≤ 140737488355328 from hlu2.len.2)
                have hn16 := HN16.out
                clear hDx hxr hlu1 hlu2 hlu3 hlt hq hql hin
                go_upto_region 22 with (go_at_call 15; refine HU.out.mono ?_; rintro e W11 ⟨uv, rfl, hrow, _, hc11, ho11⟩)
                have HSQ := Lib.hid (show ∀ z, z < w.heap.size → ¬ K.F i z from fun z hz e => by have := HBS.out.2.2.2 z e; omega)
                have HM11 := HJ.out.mp.only ho11 HNE.out.2.2.2.2.2.1
                have hlk := run_look_i (P := Try.prog) HM11 lawB Try.underlying3 (z := .slice none 0 0) (by kernel_rfl) HXI.out
                rw [HLU1.out, Option.getD_some] at hlk
                have HSM := Lib.hid (same_any uv (.slice lA l0.length lc) l0 l0 W11 (hrow.byt HL140.out) (HLU2.out.keep ho11 fun h0 z hz _ => HSQ.out z (HLU3.out h0 z hz)))
                have HJ11 := Lib.hid (show CvJ K i w.heap.size c k cb mb lb cfb hv (.slice A c.h.length m) (40 * j + 1 + (q + 1)) w (K.sp.use s x) D1 LV1 W11 from ⟨hc11, HM11, HJ.out.la.keep ho11 HSQ.out, by have h1 := HUA.out; have h2 := HJ.out.age; omega, ho11.box HJ.out.cf HNE.out.2.2.2.2.2.2, HJ.out.o.trans' ho11 fun z hz => .inr (HBS.out.2.2.2 z hz)⟩)
                have HIT11 := Lib.hid (HIT.out.keep ho11 fun g o n c e hf => by
                  have h1 := HOVB.out g (by rw [e]; exact ownB_slice.2 rfl)
                  have h2 := HFLT.out g hf
                  omega)
                clear ho11 hrow hc11 HM11 HJ HIT HU xo
                go_wp2_with (go_at_call 13; refine HSM.out.mono ?_; rw [decide_eq_true rfl]; rintro e W12 ⟨rfl, mq, rfl⟩)
                go_roundw
                case rel =>
                  have hd : Only Non W11 (W11.drewN mq) := (Only.refl Non W11).drewN mq
                  exact ⟨q + 1, _, HLQ.out, by go_num, fun y => (HUL.out y).trans (HM.out y), HIT11.out.keep hd fun _ _ _ _ _ => id, HJ11.out.ch.keep hd, HJ11.out.mp.keep hd, HJ11.out.la.keep hd fun _ _ => id, HJ11.out.age, hd.box HJ11.out.cf id, HJ11.out.o.trans hd⟩
                case measure => simp [intOf]; have := HLQ.out; omega
              · obtain rfl : q = n1 := by omega
                clear hlt hq
                go_wp2
                go_roundw
                case rel => exact ⟨j + 1, s, D1, LV1, HLT.out, by go_num, HJ.out.ch, HJ.out.mp, HJ.out.la, by have h1 := HJ.out.age; have h2 := HN16.out; omega, HJ.out.cf, HJ.out.o⟩
                case measure => simp [intOf]; have := HLT.out; omega
        · obtain rfl : j = L.length := by omega
          clear hlt hj
          go_wp2
          go_ret
          exact ⟨rfl, HI.out.o⟩
    · have HN := Lib.hid (cch_new_no hP (t : Int) W3 (HIN.out.keep HO3.out))
      clear hP e7
      go_wp2_with (first | (refine wpList_load_row rfl 25 _ rfl cfb rfl 25 (cfgCells c (.slice A c.h.length m)) (0, 0) _ HB3.out Try.underlying25 rfl (by kernel_rfl) ?_) | (go_at_call 8; refine HN.out.mono ?_; rintro e W4 ⟨rfl, ho4⟩))
      go_ret
      exact ⟨rfl, HO3.out.trans ho4⟩
end
end Go.Proofs.Ytdjjlglmhbmnlaa
