/- Several texts, one behind the other: Wida Widb. -/
import Derived.Test.YtodephhlhdbeoaaGreatM7
import Derived.Test.YtodephhlhdbeoaaGreatM5
import Derived.Test.YtodephhlhdbeoaaGreatM8
import Derived.WalkLawsBesides
import Derived.Deep.CutRange
import Derived.Sort.Grow
import Derived.Laws.BitsLemmas
import Derived.Laws.Shifts
namespace Go.Proofs.YtodephhlhdbeoaaGreat
open Go.RowKit Go.ChangeShapes Go.WideShapes
set_option linter.unusedVariables false
set_option linter.unusedSimpArgs false
theorem neg_FI {b : Nat} {n : Int} (h : FI b n) : FI (Op.negFloat .f64 b) (-n) := by
  have e : Op.negFloat .f64 b = b ^^^ 2 ^ 63 := rfl
  have hs : Ieee.double.signWeight = 2 ^ 63 := by decide
  have h1 : (b ^^^ 2 ^ 63) % 2 ^ 63 = b % 2 ^ 63 := by
    rw [Nat.xor_mod_two_pow, Nat.mod_self, Nat.xor_zero]
  have h2 : (b ^^^ 2 ^ 63) / 2 ^ 63 % 2 = 1 - b / 2 ^ 63 % 2 := by
    rw [Nat.xor_div_two_pow, Nat.div_self (by decide)]
    have := Nat.xor_mod_two_pow (a := b / 2 ^ 63) (b := 1) (n := 1)
    rw [Nat.pow_one] at this
    rw [this]
    rcases Nat.mod_two_eq_zero_or_one (b / 2 ^ 63) with h | h <;> rw [h] <;> decide
  obtain ⟨s, m, k, hr, hv⟩ := h
  rw [e]
  refine ⟨!s, m, k, ?_, ?_⟩
  · unfold Ieee.Format.read at hr ⊢
    simp only [hs, h1, h2] at hr ⊢
    have hsg : ((1 - b / 2 ^ 63 % 2 == 1) : Bool) = !(b / 2 ^ 63 % 2 == 1) := by
      rcases Nat.mod_two_eq_zero_or_one (b / 2 ^ 63) with h | h <;> rw [h] <;> rfl
    rw [hsg]
    split at hr
    · rename_i h3
      rw [if_pos h3]
      injection hr with e1 e2 e3
      rw [e1, e2, e3]
    · rename_i h3
      rw [if_neg h3]
      split at hr
      · rename_i h4
        rw [if_pos h4]
        injection hr with e1 e2 e3
        rw [e1, e2, e3]
      · rename_i h4
        exfalso
        split at hr <;> cases hr
  · rw [Int.neg_mul, ← hv]
    cases s <;> simp
theorem cmul_FI {a b c d : Nat} {x y u v : Int} (ha : FI a x) (hb : FI b y) (hc : FI c u) (hd : FI d v) (h1 : x.natAbs < 65536) (h2 : y.natAbs < 65536) (h3 : u.natAbs < 65536) (h4 : v.natAbs < 65536) :
    ∃ re im, cMulBits a b c d = some (re, im) ∧ FI re (x * u - y * v) ∧ FI im (x * v + y * u) := by
  have hm : ∀ p q : Int, p.natAbs < 65536 → q.natAbs < 65536 → (p * q).natAbs < 4294967296 := fun p q hp hq => by
    rw [Int.natAbs_mul]
    calc p.natAbs * q.natAbs ≤ 65535 * 65535 := Nat.mul_le_mul (by omega) (by omega)
      _ < 4294967296 := by decide
  have m1 := hm x u h1 h3
  have m2 := hm y v h2 h4
  have m3 := hm x v h1 h4
  have m4 := hm y u h2 h3
  obtain ⟨r1, e1, f1⟩ := mul_FI ha hc (by omega)
  obtain ⟨r2, e2, f2⟩ := mul_FI hb hd (by omega)
  obtain ⟨r3, e3, f3⟩ := sub_FI f1 f2 (by omega)
  obtain ⟨r4, e4, f4⟩ := mul_FI ha hd (by omega)
  obtain ⟨r5, e5, f5⟩ := mul_FI hb hc (by omega)
  obtain ⟨r6, e6, f6⟩ := add_FI f4 f5 (by omega)
  refine ⟨r3, r6, ?_, f3, f6⟩
  unfold cMulBits
  rw [e1, e2, e4, e5]
  show ((floatBits .sub .f64 r1 r2).bind fun re => (floatBits .add .f64 r4 r5).bind fun im => some (re, im)) = _
  rw [e3, e6]
  rfl
def hiW (n : Int) : Int := n / 65536
def loW (n : Int) : Int := n % 65536
def PtOf (n : Int) (v : Value) : Prop := ∃ a b, v = .complex .f64 a b ∧ FI a (hiW n) ∧ FI b (loW n)
section
set_option maxHeartbeats 4000000
set_option maxRecDepth 100000
theorem wide_within (n m : Int) (w : World) : Calls Tryz.prog 308 #[.int .i64 n, .int .i64 m] w fun e w' => e = .returned (.bool (decide (0 ≤ n) && decide (n ≤ m))) ∧ w = w' := by
  by_cases h1 : 0 ≤ n
  · have hb1 : decide (0 ≤ n) = true := by simp [h1]
    by_cases h2 : n ≤ m
    · have hb2 : decide (n ≤ m) = true := by simp [h2]
      rw [hb1, hb2]
      clear hb1 hb2
      go_enter Tryz.func308, Tryz.ntmps308
      go_wp2
      go_ret
      exact ⟨rfl, rfl⟩
    · have hb2 : decide (n ≤ m) = false := by simp [h2]
      rw [hb1, hb2]
      clear hb1 hb2
      go_enter Tryz.func308, Tryz.ntmps308
      go_wp2
      go_ret
      exact ⟨rfl, rfl⟩
  · have hb1 : decide (0 ≤ n) = false := by simp [h1]
    rw [hb1]
    clear hb1
    go_enter Tryz.func308, Tryz.ntmps308
    go_wp2
    go_ret
    exact ⟨rfl, rfl⟩
def ptW (n : Int) : Value := .complex .f64 (floatOfInt .f64 (hiW n)) (floatOfInt .f64 (loW n))
theorem point_any {n : Int} (h0 : 0 ≤ n) (h1 : n < 4294967296) (w : World) : Calls Tryz.prog 315 #[.int .i64 n] w fun e w' => e = .returned (ptW n) ∧ w = w' := by
  have hand : bits .and .i64 n 65535 = loW n := bits_mask .i64 63 (by decide) (fun n h0 h1 => by rw [IntKind.wrap_i64]; omega) 16 (by decide) n h0 (by omega)
  go_enter Tryz.func315, Tryz.ntmps315
  go_wp2
  go_ret
  exact ⟨rfl, rfl⟩
theorem mirror_any (a b : Nat) (w : World) : Calls Tryz.prog 316 #[.complex .f64 a b] w fun e w' => e = .returned (.complex .f64 a (Op.negFloat .f64 b)) ∧ w = w' := by
  have hneg : Op.unary .neg (.float .f64 b) = pure (.float .f64 (Op.negFloat .f64 b)) := rfl
  go_enter Tryz.func316, Tryz.ntmps316
  go_wp2
  go_ret
  exact ⟨rfl, rfl⟩
theorem mul_small (u v : Int) (h1 : 0 ≤ u ∧ u < 65536) (h2 : 0 ≤ v ∧ v < 65536) : 0 ≤ u * v ∧ u * v ≤ 4294836225 := by
  refine ⟨Int.mul_nonneg h1.1 h2.1, ?_⟩
  calc u * v ≤ 65535 * 65535 := Int.mul_le_mul (by omega) (by omega) h2.1 (by omega)
    _ = 4294836225 := by decide
theorem results_tmp4 {fn : Func} {t u v x : Tmp} (h : fn.results = #[.tmp t, .tmp u, .tmp v, .tmp x]) (tmps : Array Value) (P : Program) (w : World) :
    (results fn tmps).run P w = .ok (.tuple #[tmps.getD t undef, tmps.getD u undef, tmps.getD v undef, tmps.getD x undef]) w := by
  simp [results, h]
theorem parts_core {x y A B C D : Int} {pa pb : Int → Nat} {d' r1 i1 r2 i2 : Nat} (w : World) (m1 : 0 ≤ A ∧ A ≤ 4294836225) (m2 : 0 ≤ B ∧ B ≤ 4294836225) (m3 : 0 ≤ C ∧ C ≤ 4294836225) (m4 : 0 ≤ D ∧ D ≤ 4294836225)
    (hx0 : 0 ≤ x) (hx1 : x ≤ 4294967295) (hy0 : 0 ≤ y) (hy1 : y ≤ 4294967295)
    (px : ∀ n, 0 ≤ n → n ≤ 4294967295 → ∀ w, Calls Tryz.prog 315 #[.int .i64 n] w fun e w' => e = .returned (.complex .f64 (pa n) (pb n)) ∧ w = w')
    (mir : ∀ w, Calls Tryz.prog 316 #[.complex .f64 (pa y) (pb y)] w fun e w' => e = .returned (.complex .f64 (pa y) d') ∧ w = w')
    (u1 : ∀ w, (binOp .mul 398 (.complex .f64 (pa x) (pb x)) (.complex .f64 (pa y) (pb y))).run Tryz.prog w = .ok (.complex .f64 r1 i1) w)
    (u2 : ∀ w, (binOp .mul 398 (.complex .f64 (pa x) (pb x)) (.complex .f64 (pa y) d')).run Tryz.prog w = .ok (.complex .f64 r2 i2) w)
    (c1 : ∀ w, (convert 401 3 (.float .f64 r1)).run Tryz.prog w = .ok (.int .i64 (A - B)) w)
    (c2 : ∀ w, (convert 401 3 (.float .f64 r2)).run Tryz.prog w = .ok (.int .i64 (A + B)) w)
    (c3 : ∀ w, (convert 401 3 (.float .f64 i1)).run Tryz.prog w = .ok (.int .i64 (C + D)) w) :
    Calls Tryz.prog 313 #[.int .i64 x, .int .i64 y] w fun e w' => e = .returned (.tuple #[.int .i64 A, .int .i64 (C + D), .int .i64 B, .int .i64 0]) ∧ w = w' := by
  have px := Lib.hid px
  have mir := Lib.hid mir
  have U1 := Lib.hid u1
  have U2 := Lib.hid u2
  have C1 := Lib.hid c1
  have C2 := Lib.hid c2
  have C3 := Lib.hid c3
  clear u1 u2 c1 c2 c3
  go_enter Tryz.func313, Tryz.ntmps313
  go_upto_region 3 with (go_at_call 308; refine (wide_within _ _ _).mono ?_; rintro e w1 ⟨rfl, rfl⟩)
  have u1 := U1.out
  have u2 := U2.out
  have c1 := C1.out
  have c2 := C2.out
  have c3 := C3.out
  clear U1 U2 C1 C2 C3
  go_upto_region 5 with (first | (go_at_call 315; refine (px.out _ (by assumption) (by assumption) _).mono ?_; rintro e w1 ⟨rfl, rfl⟩) | (go_at_call 316; refine (mir.out _).mono ?_; rintro e w1 ⟨rfl, rfl⟩))
  have q1 : IntKind.i64.wrap ((A + B) + (A - B)) = 2 * A := by rw [IntKind.wrap_i64]; omega
  have q2 : IntKind.i64.wrap ((A + B) - (A - B)) = 2 * B := by rw [IntKind.wrap_i64]; omega
  have q3 : Int.tdiv (2 * A) 2 = A := by rw [Int.tdiv_eq_ediv_of_nonneg (by omega)]; omega
  have q4 : Int.tdiv (2 * B) 2 = B := by rw [Int.tdiv_eq_ediv_of_nonneg (by omega)]; omega
  go_wp2
  (try simp only [Exit.inBlock, Exit.then])
  refine bodyPost_ret (results_tmp4 rfl _ _ _) rfl ?_
  exact ⟨rfl, rfl⟩
theorem parts_any {x y : Int} (hx0 : 0 ≤ x) (hx1 : x ≤ 4294967295) (hy0 : 0 ≤ y) (hy1 : y ≤ 4294967295) (w : World) :
    Calls Tryz.prog 313 #[.int .i64 x, .int .i64 y] w fun e w' => e = .returned (.tuple #[.int .i64 (hiW x * hiW y), .int .i64 (hiW x * loW y + loW x * hiW y), .int .i64 (loW x * loW y), .int .i64 0]) ∧ w = w' := by
  have ax : 0 ≤ hiW x ∧ hiW x < 65536 := by unfold hiW; omega
  have ay : 0 ≤ hiW y ∧ hiW y < 65536 := by unfold hiW; omega
  have bx : 0 ≤ loW x ∧ loW x < 65536 := by unfold loW; omega
  have bY : 0 ≤ loW y ∧ loW y < 65536 := by unfold loW; omega
  have fx := ofInt_FI (hiW x) (by omega)
  have gx := ofInt_FI (loW x) (by omega)
  have fy := ofInt_FI (hiW y) (by omega)
  have gy := ofInt_FI (loW y) (by omega)
  obtain ⟨r1, i1, e1, k1, l1⟩ := cmul_FI fx gx fy gy (by omega) (by omega) (by omega) (by omega)
  obtain ⟨r2, i2, e2, k2, l2⟩ := cmul_FI fx gx fy (neg_FI gy) (by omega) (by omega) (by omega) (by omega)
  have m1 := mul_small _ _ ax ay
  have m2 := mul_small _ _ bx bY
  have m3 := mul_small _ _ ax bY
  have m4 := mul_small _ _ bx ay
  rw [Int.mul_neg, Int.sub_neg] at k2
  exact parts_core (pa := fun n => floatOfInt .f64 (hiW n)) (pb := fun n => floatOfInt .f64 (loW n)) w m1 m2 m3 m4 hx0 hx1 hy0 hy1
    (fun n h0 h1 w => point_any h0 (by omega) w) (fun w => mirror_any _ _ w)
    (fun w => run_complex_mul (P := Tryz.prog) w _ _ _ _ _ r1 i1 e1) (fun w => run_complex_mul (P := Tryz.prog) w _ _ _ _ _ r2 i2 e2)
    (fun w => run_convert_float_int (P := Tryz.prog) w _ _ .f64 .i64 r1 _ (by kernel_rfl) (by kernel_rfl) (toInt_FI k1 (by omega)))
    (fun w => run_convert_float_int (P := Tryz.prog) w _ _ .f64 .i64 r2 _ (by kernel_rfl) (by kernel_rfl) (toInt_FI k2 (by omega)))
    (fun w => run_convert_float_int (P := Tryz.prog) w _ _ .f64 .i64 i1 _ (by kernel_rfl) (by kernel_rfl) (toInt_FI l1 (by omega)))
theorem hilo (x y : Int) : hiW x * hiW y * 4294967296 + (hiW x * loW y + loW x * hiW y) * 65536 + loW x * loW y = x * y := by
  have e1 : x = hiW x * 65536 + loW x := by unfold hiW loW; omega
  have e2 : y = hiW y * 65536 + loW y := by unfold hiW loW; omega
  generalize hiW x = a at *
  generalize loW x = b at *
  generalize hiW y = c at *
  generalize loW y = d at *
  subst e1 e2
  have h1 : a * 65536 * (c * 65536) = a * c * 4294967296 := by
    rw [Int.mul_assoc, Int.mul_left_comm 65536 c 65536, ← Int.mul_assoc]; rfl
  have h2 : a * 65536 * d = a * d * 65536 := by rw [Int.mul_assoc, Int.mul_comm 65536 d, ← Int.mul_assoc]
  have h3 : b * (c * 65536) = b * c * 65536 := by rw [Int.mul_assoc]
  have h4 : (a * 65536 + b) * (c * 65536 + d) = a * 65536 * (c * 65536) + a * 65536 * d + (b * (c * 65536) + b * d) := by
    rw [Int.add_mul, Int.mul_add, Int.mul_add]
  rw [h4, h1, h2, h3, Int.add_mul]
  omega
theorem mul_any {x y : Int} (hx0 : 0 ≤ x) (hx1 : x ≤ 2147483647) (hy0 : 0 ≤ y) (hy1 : y ≤ 2147483647) (w : World) :
    Calls Tryz.prog 310 #[.int .i64 x, .int .i64 y] w fun e w' => e = .returned (.tuple #[.int .i64 (x * y), .int .i64 0]) ∧ w = w' := by
  have HP := fun w => parts_any hx0 (by omega : x ≤ 4294967295) hy0 (by omega : y ≤ 4294967295) w
  have ax : 0 ≤ hiW x ∧ hiW x < 32768 := by unfold hiW; omega
  have ay : 0 ≤ hiW y ∧ hiW y < 32768 := by unfold hiW; omega
  have bx : 0 ≤ loW x ∧ loW x < 65536 := by unfold loW; omega
  have bY : 0 ≤ loW y ∧ loW y < 65536 := by unfold loW; omega
  have m1 : 0 ≤ hiW x * hiW y ∧ hiW x * hiW y ≤ 1073676289 := by
    refine ⟨Int.mul_nonneg ax.1 ay.1, ?_⟩
    calc hiW x * hiW y ≤ 32767 * 32767 := Int.mul_le_mul (by omega) (by omega) ay.1 (by omega)
      _ = 1073676289 := by decide
  have m2 := mul_small _ _ bx bY
  have m3 := mul_small (hiW x) (loW y) (by omega) bY
  have m4 := mul_small (loW x) (hiW y) bx (by omega)
  have he := hilo x y
  rw [← he]
  clear he ax ay bx bY
  have HP := Lib.hid HP
  have gen : ∀ A B C D : Int, 0 ≤ A ∧ A ≤ 1073676289 → 0 ≤ B ∧ B ≤ 4294836225 → 0 ≤ C ∧ C ≤ 4294836225 → 0 ≤ D ∧ D ≤ 4294836225 →
      (∀ w, Calls Tryz.prog 313 #[.int .i64 x, .int .i64 y] w fun e w' => e = .returned (.tuple #[.int .i64 A, .int .i64 (C + D), .int .i64 B, .int .i64 0]) ∧ w = w') →
      Calls Tryz.prog 310 #[.int .i64 x, .int .i64 y] w fun e w' => e = .returned (.tuple #[.int .i64 (A * 4294967296 + (C + D) * 65536 + B), .int .i64 0]) ∧ w = w' := by
    intro A B C D m1 m2 m3 m4 HP2
    have HP2 := Lib.hid HP2
    have q1 : IntKind.i64.wrap (A * 4294967296) = A * 4294967296 := by rw [IntKind.wrap_i64]; omega
    have q2 : IntKind.i64.wrap ((C + D) * 65536) = (C + D) * 65536 := by rw [IntKind.wrap_i64]; omega
    clear HP
    go_enter Tryz.func310, Tryz.ntmps310
    go_upto_region 3 with (go_at_call 308; refine (wide_within _ _ _).mono ?_; rintro e w1 ⟨rfl, rfl⟩)
    go_upto_region 4 with (go_at_call 313; refine (HP2.out _).mono ?_; rintro e w1 ⟨rfl, rfl⟩)
    go_wp2
    go_ret2
    exact ⟨rfl, rfl⟩
  exact gen _ _ _ _ m1 m2 m3 m4 HP.out
def Grw (w w' : World) : Prop := ∃ q os, w' = Sort.grow (w.drewN q) os
theorem Grw.refl (w : World) : Grw w w := ⟨0, #[], by rw [Sort.grow_empty]; rfl⟩
theorem Grw.trans {a b c : World} (h : Grw a b) (k : Grw b c) : Grw a c := by
  obtain ⟨q, os, rfl⟩ := h
  obtain ⟨q', os', rfl⟩ := k
  exact ⟨q + q', os ++ os', by show Sort.grow (Sort.grow ((a.drewN q).drewN q') os) os' = _; rw [Sort.grow_grow, World.drewN_drewN]⟩
theorem Grw.alloc {a b : World} (h : Grw a b) (o : Obj) : Grw a (b.alloc o) := h.trans ⟨0, #[o], by rw [Sort.alloc_eq_grow]; rfl⟩
theorem Grw.drew {a b : World} (h : Grw a b) : Grw a b.drew := h.trans ⟨1, #[], by rw [Sort.grow_empty]; rfl⟩
theorem Grw.only {a b : World} (h : Grw a b) : Only Non a b := by
  obtain ⟨q, os, rfl⟩ := h
  refine ⟨rfl, rfl, rfl, ?_, fun k hk _ => ?_⟩
  · rw [Sort.size_grow]; exact Nat.le_add_right _ _
  · exact Sort.heap_grow_old (a.drewN q) os hk
structure FrcOk (t b : Int) : Prop where
  t0 : 0 ≤ t
  t1 : t ≤ 2147483647
  b0 : 0 < b
  b1 : b ≤ 2147483647
def frC (t b : Int) : Array Value := #[.int .i64 t, .int .i64 b]
def frcOk (t b : Int) : Bool := decide (0 ≤ t) && decide (t ≤ 2147483647) && (decide (0 ≤ b) && decide (b ≤ 2147483647)) && decide (0 < b)
theorem wright_any {t b : Int} (h : FrcOk t b) (w : World) : Calls Tryz.prog 303 #[.agg (frC t b)] w fun e w' => e = .returned (.bool true) ∧ Grw w w' := by
  obtain ⟨h0, h1, h2, h3⟩ := h
  have h4 : 0 ≤ b := by omega
  go_enter Tryz.func303, Tryz.ntmps303
  go_upto_region 1 with fail
  have HB := Box.fresh w 382 (frC t b)
  have HO := Lib.hid ((Grw.refl w).alloc (.cells (frC t b) 382))
  change Code.wp _ _ _ _ (w.alloc (.cells (frC t b) 382))
  generalize w.alloc (.cells (frC t b) 382) = W at *
  generalize w.heap.size = g at *
  have x0 : W.cell? ⟨g, 0, none⟩ = some (.int .i64 t) := HB.cellAt rfl
  have x1 : W.cell? ⟨g, 1, none⟩ = some (.int .i64 b) := HB.cellAt rfl
  have HB := Lib.hid HB
  go_wp2_with (go_at_call 308; refine (wide_within _ _ _).mono ?_; rintro e w1 ⟨rfl, rfl⟩)
  go_ret
  exact ⟨rfl, HO.out⟩
end
def cmpZ (x y : Int) : Int := if x < y then -1 else if y < x then 1 else 0
theorem frc_mul {t b t' b' : Int} (h : FrcOk t b) (h' : FrcOk t' b') : 0 ≤ t * b' ∧ t * b' ≤ 4611686014132420609 := by
  obtain ⟨a0, a1, a2, a3⟩ := h
  obtain ⟨c0, c1, c2, c3⟩ := h'
  refine ⟨Int.mul_nonneg a0 (by omega), ?_⟩
  calc t * b' ≤ 2147483647 * 2147483647 := Int.mul_le_mul (by omega) (by omega) (by omega) (by omega)
    _ = 4611686014132420609 := by decide
section
set_option maxHeartbeats 4000000
set_option maxRecDepth 100000
theorem compare_any {t b t' b' : Int} (h : FrcOk t b) (h' : FrcOk t' b') (w : World) : Calls Tryz.prog 306 #[.agg (frC t b), .agg (frC t' b')] w fun e w' => e = .returned (.tuple #[.int .i64 (cmpZ (t * b') (t' * b)), .int .i64 0]) ∧ Grw w w' := by
  have M1 := Lib.hid (fun w => mul_any (x := t) (y := b') h.t0 h.t1 (by have := h'.b0; omega) h'.b1 w)
  have M2 := Lib.hid (fun w => mul_any (x := t') (y := b) h'.t0 h'.t1 (by have := h.b0; omega) h.b1 w)
  have HM := Lib.hid (And.intro (frc_mul h h') (frc_mul h' h))
  have HO := Lib.hid (((Grw.refl w).alloc (.cells (frC t b) 382)).alloc (.cells (frC t' b') 382))
  have HB1 := Lib.hid ((Box.fresh w 382 (frC t b)).alloc (.cells (frC t' b') 382))
  have HB2 : Hid (Box ((w.alloc (.cells (frC t b) 382)).alloc (.cells (frC t' b') 382)) (w.heap.size + 1) 382 (frC t' b')) := Lib.hid (by
    have := Box.fresh (w.alloc (.cells (frC t b) 382)) 382 (frC t' b')
    rwa [show (w.alloc (.cells (frC t b) 382)).heap.size = w.heap.size + 1 by simp] at this)
  go_enter Tryz.func306, Tryz.ntmps306
  go_upto_region 1 with fail
  change Code.wp _ _ _ _ ((w.alloc (.cells (frC t b) 382)).alloc (.cells (frC t' b') 382))
  generalize (w.alloc (.cells (frC t b) 382)).alloc (.cells (frC t' b') 382) = W at *
  generalize w.heap.size = g1 at *
  have M3 : (0 ≤ t * b' ∧ t * b' ≤ 4611686014132420609) ∧ (0 ≤ t' * b ∧ t' * b ≤ 4611686014132420609) := HM.out
  obtain ⟨⟨m1, m2⟩, m3, m4⟩ := M3
  go_upto_region 3 with (first | (refine wpList_load_row rfl 382 _ rfl g1 rfl 382 (frC t b) (0, 0) _ HB1.out Tryz.underlying382 rfl (by kernel_rfl) ?_) | (go_at_call 303; refine (wright_any (by assumption) _).mono ?_; rintro e W1 ⟨rfl, ho1⟩; have HO := Lib.hid (HO.out.trans ho1); have HB1 := Lib.hid (ho1.only.box HB1.out id); have HB2 := Lib.hid (ho1.only.box HB2.out id); have y0 : W1.cell? ⟨g1 + 1, 0, none⟩ = some (.int .i64 t') := HB2.out.cellAt rfl; have y1 : W1.cell? ⟨g1 + 1, 1, none⟩ = some (.int .i64 b') := HB2.out.cellAt rfl; clear ho1))
  have x0 : W1.cell? ⟨g1, 0, none⟩ = some (.int .i64 t) := HB1.out.cellAt rfl
  have x1 : W1.cell? ⟨g1, 1, none⟩ = some (.int .i64 b) := HB1.out.cellAt rfl
  have x2 : W1.cell? ⟨g1 + 1, 0, none⟩ = some (.int .i64 t') := HB2.out.cellAt rfl
  have x3 : W1.cell? ⟨g1 + 1, 1, none⟩ = some (.int .i64 b') := HB2.out.cellAt rfl
  clear HM
  go_upto_region 4 with (go_at_call 310; refine (M1.out _).mono ?_; rintro e w1 ⟨rfl, rfl⟩)
  go_upto_region 5 with (go_at_call 310; refine (M2.out _).mono ?_; rintro e w1 ⟨rfl, rfl⟩)
  clear M1 M2
  by_cases l1 : t * b' < t' * b
  · have hc : cmpZ (t * b') (t' * b) = -1 := by unfold cmpZ; rw [if_pos l1]
    go_wp2
    go_ret2
    (try rw [hc])
    exact ⟨rfl, HO.out⟩
  · by_cases l2 : t' * b < t * b'
    · have hc : cmpZ (t * b') (t' * b) = 1 := by unfold cmpZ; rw [if_neg l1, if_pos l2]
      go_wp2
      go_ret2
      (try rw [hc])
      exact ⟨rfl, HO.out⟩
    · have hc : cmpZ (t * b') (t' * b) = 0 := by unfold cmpZ; rw [if_neg l1, if_neg l2]
      go_wp2
      go_ret2
      (try rw [hc])
      exact ⟨rfl, HO.out⟩
end
end Go.Proofs.YtodephhlhdbeoaaGreat
