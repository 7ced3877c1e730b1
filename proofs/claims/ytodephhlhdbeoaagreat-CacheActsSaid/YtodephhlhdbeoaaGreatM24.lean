/- Several texts, one behind the other: MqF MqG. -/
import Derived.Test.YtodephhlhdbeoaaGreatM23
import Derived.Test.YtodephhlhdbeoaaGreatM17
namespace Go.Proofs.YtodephhlhdbeoaaGreat
open Go.RowKit Go.ChangeShapes Go.WideShapes
set_option linter.unusedVariables false
set_option linter.unusedSimpArgs false
def shpC (P : MqP) : Array Value := #[.int .i64 P.cap, .int .i64 P.q, .int .i64 P.life, .int .i64 P.ghost]
def mq0 : MqS := ⟨fun _ => [], 0, fun _ => 0, fun _ => 0⟩
theorem built_mq (g : Nat) (P : MqP) : Tryz.prog.built 317 [(0, .agg #[.pointer (some ⟨g, 0, none⟩)]), (1, .agg (shpC P))] = some (mqC g P mq0) := by kernel_rfl
def mqFn : OFn := ⟨353, 356, 351, 355, 352, 354⟩
def mqSp (P : MqP) : OSpec MqS := ⟨mqAll P, mqUse P, mqAdd P, fun s b => mqRem s b, fun s => s.now.toNat, fun _ => True⟩
def mqR (p g eb : Nat) (P : MqP) (s : MqS) (w : World) : Prop := MqB w p g eb P s ∧ MqI P s
theorem age1_now (P : MqP) (s : MqS) (i : Nat) : (mqAge1 P s i).now = s.now := by unfold mqAge1; split <;> rfl
theorem ageN_now (P : MqP) (s : MqS) : ∀ k, (mqAgeN P s k).now = s.now
  | 0 => rfl
  | k + 1 => (age1_now P _ _).trans (ageN_now P s k)
theorem used_now (P : MqP) (s : MqS) (b : Int) : (mqUsed P s b).now = s.now := ageN_now P _ _
theorem fresh_now (P : MqP) (s : MqS) (b : Int) : (mqFresh P s b).now = s.now := by unfold mqFresh; split <;> rfl
theorem evict_now (P : MqP) (s : MqS) : (mqEvict P s).now = s.now := by unfold mqEvict; split <;> rfl
theorem add_now (P : MqP) (s : MqS) (b : Int) : (mqAdd P s b).1.now = s.now + 1 := by
  unfold mqAdd
  split
  · exact used_now P _ b
  · split
    · exact (used_now P _ b).trans ((fresh_now P _ b).trans (evict_now P _))
    · exact (used_now P _ b).trans (fresh_now P _ b)
section
set_option maxHeartbeats 4000000
set_option maxRecDepth 100000
variable {w : World} {P : MqP}
theorem mqshp_right (hP : P.Ok) (w : World) : Calls Tryz.prog 217 #[.agg (shpC P)] w fun e w' => e = .returned (.bool true) ∧ Only Non w w' := by
  obtain ⟨h0, h1, h2, h3, h4, h5, h6⟩ := hP
  have HB := Lib.hid (Box.fresh w 241 (shpC P))
  have HO := Lib.hid ((Only.refl Non w).alloc (.cells (shpC P) 241))
  go_enter Tryz.func217, Tryz.ntmps217
  go_upto_region 1 with fail
  change Code.wp _ _ _ _ (w.alloc (.cells (shpC P) 241))
  generalize w.alloc (.cells (shpC P) 241) = W at *
  generalize w.heap.size = b at *
  have x0 : W.cell? ⟨b, 0, none⟩ = some (.int .i64 P.cap) := HB.out.cellAt rfl
  have x1 : W.cell? ⟨b, 1, none⟩ = some (.int .i64 P.q) := HB.out.cellAt rfl
  have x2 : W.cell? ⟨b, 2, none⟩ = some (.int .i64 P.life) := HB.out.cellAt rfl
  have x3 : W.cell? ⟨b, 3, none⟩ = some (.int .i64 P.ghost) := HB.out.cellAt rfl
  have i0 : (1 : Int) ≤ P.cap := by omega
  have i1 : (P.cap : Int) ≤ 16 := by omega
  have i2 : (1 : Int) ≤ P.q := by omega
  have i3 : (P.q : Int) ≤ 8 := by omega
  have i4 : (1 : Int) ≤ P.life := by omega
  have i5 : (P.life : Int) ≤ 100 := by omega
  have i6 : (0 : Int) ≤ P.ghost := by omega
  have i7 : (P.ghost : Int) ≤ 16 := by omega
  go_wp2
  go_ret
  exact ⟨rfl, HO.out⟩
def MqNewPost (P : MqP) (w : World) (e : Ending) (w' : World) : Prop := ∃ p g eb, e = .returned (.tuple #[.pointer (some ⟨p, 0, none⟩), .int .i64 0]) ∧ MqB w' p g eb P mq0 ∧ w.heap.size ≤ p ∧ w.heap.size ≤ g ∧ w.heap.size ≤ eb ∧ Only Non w w'
theorem mq_new (hP : P.Ok) (w : World) : Calls Tryz.prog 158 #[.agg (shpC P)] w (MqNewPost P w) := by
  have HR := Lib.hid (fun w => mqshp_right hP w)
  have hq8 := hP.q8
  have hwq : IntKind.i64.wrap ((P.q : Int) + 1) = (P.q : Int) + 1 := by rw [IntKind.wrap_i64]; omega
  clear hP
  go_enter Tryz.func158, Tryz.ntmps158
  go_upto_region 1 with fail
  have al := (Only.refl Non w).alloc (.cells (shpC P) 241)
  have HB := Lib.hid (Box.fresh w 241 (shpC P))
  have HO := Lib.hid al
  change Code.wp _ _ _ _ (w.alloc (.cells (shpC P) 241))
  clear al
  generalize w.alloc (.cells (shpC P) 241) = W at *
  generalize hsb : w.heap.size = sb at *
  have HSB := Lib.hid hsb
  clear hsb
  go_upto_region 3 with (first | (refine wpList_load_row rfl 241 _ rfl sb rfl 241 (shpC P) (0, 0) _ HB.out Tryz.underlying241 rfl (by kernel_rfl) ?_) | (go_at_call 217; refine (HR.out _).mono ?_; rintro e W1 ⟨rfl, ho1⟩))
  have HB1 := Lib.hid (ho1.box HB.out id)
  have HO1 := Lib.hid (HO.out.trans ho1)
  clear ho1 HB HO
  refine wp_region_tail (S := (fun w' : World => Box w' sb 241 (shpC P) ∧ Only Non w w')) 6 (by kernel_rfl) (by kernel_rfl) ?_ ?_
  · first | exact hS2 | exact ⟨HB1.out.drew, HO1.out.drew⟩
  intro hSS
  refine wpHd_take (i := 0) (v := ?_) (by kernel_rfl) rfl (by kernel_rfl) (fun _ _ _ h => h) (.inl ⟨by rfl, ?_⟩) hSS ?_
  rotate_left
  · intro w hSw; (try dsimp only at hSw); go_simp; (try with_reducible rfl)
  refine wpHd_take (i := 1) (v := .int .i64 P.q) (by kernel_rfl) rfl (by kernel_rfl) (fun _ _ _ h => h) (.inl ⟨by rfl, ?_⟩) hSS ?_
  · intro w hSw; have hq := hSw.1.cellAt (i := 1) (v := .int .i64 P.q) rfl; clear hSw; go_simp; (try with_reducible rfl)
  refine wpHd_take (i := 2) (v := ?_) (by kernel_rfl) rfl (by kernel_rfl) (fun _ _ _ h => h) (.inl ⟨by rfl, ?_⟩) hSS ?_
  rotate_left
  · intro w hSw; (try dsimp only at hSw); go_simp; (try with_reducible rfl)
  refine wpHd_take (i := 5) (v := .agg (shpC P)) (by kernel_rfl) rfl (by kernel_rfl) (fun _ _ _ h => h) (yieldsIf_load_mid (by rfl) 241 _ rfl sb 0 rfl (shpC P).toList _ (fun w hw j v hj => by rw [Nat.zero_add]; exact hw.1.cellAt (by rw [← Array.getElem?_toList]; exact hj)) Tryz.underlying241 rfl (by kernel_rfl)) (by assumption) ?_
  try simp only [Act.put, List.getElem_toArray, List.getElem_cons_succ, List.getElem_cons_zero, List.setIfInBounds_toArray, List.set_cons_zero, List.set_cons_succ]
  refine wpHd_one (i := 3) rfl (by kernel_rfl) (fun K hK => ?_)
  go_simp
  have HN := new_any (m := P.q + 1) W1.drew (by omega) (by omega)
  rw [show ((P.q + 1 : Nat) : Int) = (P.q : Int) + 1 by omega] at HN
  refine HN.mono ?_
  rintro e W2 ⟨g, eb, rfl, h3, h4, h5, h6⟩
  have hS2 : Box W2 sb 241 (shpC P) ∧ Only Non w W2 := ⟨h6.box hSS.1 id, hSS.2.trans h6⟩
  refine hK.out _ _ ?_ (fun hSS => ?_)
  · first | exact hS2 | exact ⟨HB1.out.drew, HO1.out.drew⟩
  clear hK
  refine wpHd_take (i := 4) (v := ?_) (by kernel_rfl) rfl (by kernel_rfl) (fun _ _ _ h => h) (.inl ⟨by rfl, ?_⟩) hSS ?_
  rotate_left
  · intro w hSw; (try dsimp only at hSw); go_simp; (try with_reducible rfl)
  try simp only [Act.put, List.getElem_toArray, List.getElem_cons_succ, List.getElem_cons_zero, List.setIfInBounds_toArray, List.set_cons_zero, List.set_cons_succ]
  refine wpHd_end (by kernel_rfl) ?_
  have HS3 := Lib.hid h3
  have HS2 := Lib.hid hS2
  have HLO := Lib.hid (show w.heap.size ≤ g ∧ w.heap.size ≤ eb ∧ w.heap.size ≤ W2.heap.size from ⟨Nat.le_trans HO1.out.drew.size h4, Nat.le_trans HO1.out.drew.size h5, hS2.2.size⟩)
  clear hSS hS2 h3 h4 h5 h6
  refine wpList_build' rfl _ _ rfl [(0, .agg #[.pointer (some ⟨g, 0, none⟩)]), (1, .agg (shpC P))] _ (by simp [Act.eval]) (built_mq g P) ?_
  go_wp2
  go_ret2
  have al := (Only.refl Non W2).alloc (.cells (mqC g P mq0) 317)
  exact ⟨W2.heap.size, g, eb, rfl, ⟨Box.fresh W2 317 (mqC g P mq0), HS3.out.keep al⟩, HLO.out.2.2, HLO.out.1, HLO.out.2.1, HS2.out.2.trans al⟩
theorem mq_disp (p : Nat) : Disp 237 (.pointer (some ⟨p, 0, none⟩)) "Has" mqFn.has ∧ Disp 237 (.pointer (some ⟨p, 0, none⟩)) "Use" mqFn.use ∧ Disp 237 (.pointer (some ⟨p, 0, none⟩)) "Add" mqFn.add ∧
    Disp 237 (.pointer (some ⟨p, 0, none⟩)) "Remove" mqFn.rem ∧ Disp 237 (.pointer (some ⟨p, 0, none⟩)) "All" mqFn.all ∧ Disp 237 (.pointer (some ⟨p, 0, none⟩)) "Len" mqFn.len :=
  ⟨⟨fun w => by kernel_rfl, fun a w => by kernel_rfl⟩, ⟨fun w => by kernel_rfl, fun a w => by kernel_rfl⟩, ⟨fun w => by kernel_rfl, fun a w => by kernel_rfl⟩,
   ⟨fun w => by kernel_rfl, fun a w => by kernel_rfl⟩, ⟨fun w => by kernel_rfl, fun a w => by kernel_rfl⟩, ⟨fun w => by kernel_rfl, fun a w => by kernel_rfl⟩⟩
theorem mq_ord (p g eb : Nat) (hP : P.Ok) : OrdC (mqSp P) 237 (.pointer (some ⟨p, 0, none⟩)) mqFn (Tri p g eb) (mqR p g eb P) where
  dhas := (mq_disp p).1
  duse := (mq_disp p).2.1
  dadd := (mq_disp p).2.2.1
  drem := (mq_disp p).2.2.2.1
  dall := (mq_disp p).2.2.2.2.1
  dlen := (mq_disp p).2.2.2.2.2
  ptr := ⟨p, rfl, .inl rfl⟩
  only := fun h ho hF => ⟨h.1.only ho (hF p (.inl rfl)) (hF g (.inr (.inl rfl))) (hF eb (.inr (.inr rfl))), h.2⟩
  lt := fun h k hk => by
    rcases hk with rfl | rfl | rfl
    · exact Box.lt h.1.m
    · exact h.1.sp.lt1.1
    · exact h.1.sp.lt1.2
  has := fun b h => (mq_has b h.1 h.2.ok.dj).mono fun e w' ⟨h1, h2⟩ => ⟨h1, h2 ▸ Only.refl _ _⟩
  len := fun h => (mq_len hP h.1 h.2.ok.dj).mono fun e w' ⟨h1, h2⟩ => ⟨h1, h2 ▸ Only.refl _ _⟩
  all := fun h => mq_all hP h.1 h.2.ok.dj
  use := fun {s w b} h hb ha => by
    have hb : b ∈ mqAll P s := hb
    obtain ⟨n, rfl⟩ := Int.eq_ofNat_of_zero_le (all_rng h.2.ok hb).1
    have ha : s.now.toNat < 1000000000 := ha
    exact (mq_use hP h.1 h.2.ok (by omega) hb).mono fun e w' ⟨h1, h2, h3⟩ => ⟨h1, ⟨h2, (use_inv hP h.2 hb).1⟩, h3⟩
  add := fun {s w b} h h0 h1 _ ha => by
    obtain ⟨n, rfl⟩ := Int.eq_ofNat_of_zero_le h0
    have ha : s.now.toNat < 1000000000 := ha
    exact (mq_add hP h.1 h.2 (by omega) (by omega)).mono fun e w' ⟨h2, h3, h4⟩ => ⟨h2, ⟨h3, (add_inv hP h.2 h0 h1).1⟩, h4⟩
  rem := fun {s w b} h hb => by
    have hb : b ∈ mqAll P s := hb
    obtain ⟨n, rfl⟩ := Int.eq_ofNat_of_zero_le (all_rng h.2.ok hb).1
    exact (mq_rem h.1 h.2.ok hb).mono fun e w' ⟨h1, h2, h3⟩ => ⟨h1, ⟨h2, (rem_inv h.2 hb).1⟩, h3⟩
  rng := fun h hb => all_rng h.2.ok hb
  nodup := fun h => all_nodup h.2.ok
  addL := fun h h0 h1 _ => (add_inv hP h.2 h0 h1).2.2
  useL := fun h hb => (use_inv hP h.2 hb).2.2
  remL := fun h hb => (rem_inv h.2 hb).2
  ageU := fun s b => by
    show (mqUse P s b).now.toNat ≤ s.now.toNat + 1
    rw [show (mqUse P s b).now = s.now + 1 from used_now P _ b]
    omega
  ageA := fun s b => by
    show (mqAdd P s b).1.now.toNat ≤ s.now.toNat + 1
    rw [add_now]
    omega
  ageR := fun s b => Nat.le_refl _
def mqK (P : MqP) (hP : P.Ok) : OKind := ⟨MqS, Nat × Nat × Nat, mqSp P, 237, mqFn, fun i => .pointer (some ⟨i.1, 0, none⟩), fun i => Tri i.1 i.2.1 i.2.2, fun i => mqR i.1 i.2.1 i.2.2 P, mq0, fun i => mq_ord i.1 i.2.1 i.2.2 hP, by
  show mqAll P mq0 = []
  cases h : mqAll P mq0 with
  | nil => rfl
  | cons a l =>
    have : a ∈ mqAll P mq0 := by rw [h]; exact List.mem_cons_self ..
    obtain ⟨i, _, h2⟩ := mem_all.1 this
    cases h2⟩
end
def mqPc (c : CfgA) (k : Nat) : MqP := ⟨(c.f (9 + k)).toNat, (c.f 12).toNat, (c.f 13).toNat, (c.f 14).toNat⟩
theorem mqPc_ok {c : CfgA} {k : Nat} (hP : CfgP c) (hk : k < 3) : (mqPc c k).Ok := by
  have h1 := hP.pc k hk; have h2 := hP.p12; have h3 := hP.p13; have h4 := hP.p14
  constructor <;> simp only [mqPc] <;> omega
section
set_option maxHeartbeats 4000000
set_option maxRecDepth 100000
theorem mq_made {c : CfgA} {k : Nat} (hP : CfgP c) (hk : k < 3) (hp : c.f 5 ≠ 2) (hq : c.f (6 + k) = 2) : (mqK (mqPc c k) (mqPc_ok hP hk)).Made c (k + 1) := by
  intro w A n cp hin
  have hPk := mqPc_ok hP hk
  have hc := hP.pc k hk
  have h12 := hP.p12; have h13 := hP.p13; have h14 := hP.p14
  have HN := Lib.hid (fun w => mq_new (P := mqPc c k) hPk w)
  have e9 : c.f (9 + k) = ((mqPc c k).cap : Int) := by simp only [mqPc]; omega
  have e12 : c.f 12 = ((mqPc c k).q : Int) := by simp only [mqPc]; omega
  have e13 : c.f 13 = ((mqPc c k).life : Int) := by simp only [mqPc]; omega
  have e14 : c.f 14 = ((mqPc c k).ghost : Int) := by simp only [mqPc]; omega
  have HE := Lib.hid (show c.f (9 + k) = ((mqPc c k).cap : Int) ∧ c.f 12 = ((mqPc c k).q : Int) ∧ c.f 13 = ((mqPc c k).life : Int) ∧ c.f 14 = ((mqPc c k).ghost : Int) from ⟨e9, e12, e13, e14⟩)
  have hw : IntKind.i64.wrap (((k + 1 : Nat) : Int) - 1) = k := by rw [IntKind.wrap_i64]; omega
  have hk3 : (k : Int) < 3 := by omega
  have HC := Lib.hid (fun (W : World) (bb : Nat) (hb : Box W bb 25 (cfgCells c (.slice A n cp))) (i : Nat) (hi : i < 16) => hb.cellAt (cfgCells_at c (.slice A n cp) hi))
  have HQ := Lib.hid hq
  have HPP := Lib.hid hp
  have HI0 := Lib.hid (show MqI (mqPc c k) mq0 from new_inv _)
  show Calls Tryz.prog 85 #[.agg (cfgCells c (.slice A n cp)), .int .i64 ((k + 1 : Nat) : Int)] w (OPost (mqK (mqPc c k) hPk) w)
  clear hin hc hq h12 h13 h14 e9 e12 e13 e14 hp
  go_enter Tryz.func85, Tryz.ntmps85
  go_upto_region 1 with fail
  have HB := Lib.hid (Box.fresh w 25 (cfgCells c (.slice A n cp)))
  have HO := Lib.hid ((Only.refl Non w).alloc (.cells (cfgCells c (.slice A n cp)) 25))
  generalize w.alloc (.cells (cfgCells c (.slice A n cp)) 25) = W1 at *
  generalize w.heap.size = bb at *
  have c5 := HC.out W1 bb HB.out 5 (by decide)
  have c6 := HC.out W1 bb HB.out (6 + k) (by omega)
  have c9 := HC.out W1 bb HB.out (9 + k) (by omega)
  have c12 := HC.out W1 bb HB.out 12 (by decide)
  have c13 := HC.out W1 bb HB.out 13 (by decide)
  have c14 := HC.out W1 bb HB.out 14 (by decide)
  rw [HE.out.1] at c9
  rw [HE.out.2.1] at c12
  rw [HE.out.2.2.1] at c13
  rw [HE.out.2.2.2] at c14
  rw [HQ.out] at c6
  have hq := HPP.out
  have hqb : (c.f 5 == 2) = false := by simpa using hq
  generalize c.f 5 = f5 at *
  have HN1 := Lib.hid (HN.out W1)
  clear HC HE HN HPP
  go_wp2_with (go_at_call 158; refine HN1.out.mono ?_; rintro e W2 ⟨p, g, eb, rfl, h1, h2, h3, h4, h5⟩)
  go_ret
  have hsz := HO.out.size
  refine ⟨(p, g, eb), rfl, ⟨h1, HI0.out⟩, fun j hj => ?_, HO.out.trans h5⟩
  rcases hj with rfl | rfl | rfl
  · exact Nat.le_trans hsz h2
  · exact Nat.le_trans hsz h3
  · exact Nat.le_trans hsz h4
end
end Go.Proofs.YtodephhlhdbeoaaGreat
