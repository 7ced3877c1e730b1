/- raw.within, raw.Get. -/
import Derived.Test.YtcphifphidcbaaaGreatRawB
import Derived.Laws.BitsLemmas
namespace Go.Proofs.YtcphifphidcbaaaGreat
open Go.RowKit
set_option linter.unusedVariables false
set_option linter.unusedSimpArgs false
/-- the bytes that a number is read from are bytes -/
def inR : List Int → Nat → Prop
  | [], _ => True
  | c :: cs, i => (0 ≤ c ∧ c ≤ 255) ∧ (128 ≤ c → i < 8 → inR cs (i + 1))
theorem inR_enc : ∀ (f n i : Nat) (t : List Int), n < 128 ^ (f + 1) → inR (encF f n ++ t) i
  | 0, n, i, t, h => by
    simp at h
    exact ⟨by omega, fun h1 => by omega⟩
  | f + 1, n, i, t, h => by
    rw [encF]
    split
    · exact ⟨by omega, fun h1 => by omega⟩
    · exact ⟨by omega, fun _ _ => inR_enc f (n / 128) (i + 1) t (by rw [Nat.div_lt_iff_lt_mul (by decide), ← Nat.pow_succ]; exact h)⟩
theorem inR_take : ∀ (l : List Int) (i k : Nat), inR l i → inR (l.take k) i
  | [], i, k, _ => by simp [inR]
  | c :: cs, i, 0, _ => by simp [inR]
  | c :: cs, i, k + 1, h => ⟨h.1, fun h1 h2 => inR_take cs (i + 1) k (h.2 h1 h2)⟩
theorem inR_num (n : Nat) (t : List Int) (h : n < 2 ^ 63) : inR (encN n ++ t) 0 := inR_enc 8 n 0 t (by rw [show (128 : Nat) ^ (8 + 1) = 2 ^ 63 from by decide]; exact h)
theorem inR_cut (n k : Nat) (h : n < 2 ^ 63) : inR ((encN n).take k) 0 := inR_take _ _ _ (by have := inR_num n [] h; rwa [List.append_nil] at this)
def getV (b : List Int) (p : Nat) : Value := match rd (b.drop p) with
  | .ok n k => .tuple #[.int .i64 n, .int .i64 ((p + k : Nat) : Int), .int .i64 0]
  | .short => .tuple #[.int .i64 0, .int .i64 0, .int .i64 1]
  | .form => .tuple #[.int .i64 0, .int .i64 0, .int .i64 2]
theorem and127 {x : Int} (h : 0 ≤ x ∧ x ≤ 255) : bits BinOp.and IntKind.u8 x 127 = ((x.toNat % 128 : Nat) : Int) := by
  have key : ∀ m, m < 256 → bits BinOp.and IntKind.u8 ((m : Nat) : Int) 127 = ((m % 128 : Nat) : Int) := by decide +kernel
  have := key x.toNat (by omega)
  rwa [show ((x.toNat : Nat) : Int) = x from by omega] at this
theorem or63 (a y i : Nat) (h : a < 128 ^ i) (hy : y < 128) (hi : i ≤ 8) : a + y * 128 ^ i < 2 ^ 63 ∧ bits BinOp.or IntKind.i64 (a : Int) ((y * 128 ^ i : Nat) : Int) = ((a + y * 128 ^ i : Nat) : Int) := by
  have h1 : a + y * 128 ^ i < 128 ^ (i + 1) := by
    rw [Nat.pow_succ]
    have : y * 128 ^ i ≤ 127 * 128 ^ i := Nat.mul_le_mul_right _ (by omega)
    omega
  have h2 : (128 : Nat) ^ (i + 1) ≤ 128 ^ 9 := Nat.pow_le_pow_right (by decide) (by omega)
  have h3 : (128 : Nat) ^ 9 = 2 ^ 63 := by decide
  have h4 : a + y * 128 ^ i < 2 ^ 63 := by omega
  refine ⟨h4, ?_⟩
  rw [(bits_nat .i64 63 (by decide) (fun n h0 h1 => IntWalk.i64_in _ (by rw [show (2 : Int) ^ 63 = 9223372036854775808 from by decide] at h1; omega)) a (y * 128 ^ i) (by omega) (by omega)).2]
  have e : (128 : Nat) ^ i = 2 ^ (7 * i) := by rw [Nat.pow_mul]
  rw [e] at h ⊢
  rw [Nat.or_comm, ← Nat.shiftLeft_eq, ← Nat.shiftLeft_add_eq_or_of_lt h, Nat.add_comm]
theorem sh63 (a y i : Nat) (h : a < 128 ^ i) (hy : y < 128) (hi : i ≤ 8) : IntKind.i64.wrap ((y : Int) * 2 ^ (7 * i)) = ((y * 128 ^ i : Nat) : Int) := by
  have h1 := (or63 a y i h hy hi).1
  have e : ((y : Int) * 2 ^ (7 * i)) = ((y * 128 ^ i : Nat) : Int) := by
    rw [Int.natCast_mul, Int.natCast_pow, Int.pow_mul]; rfl
  rw [e]
  exact IntWalk.i64_in _ (by omega)
theorem getV_ok {b : List Int} {p n k : Nat} (h : rd (b.drop p) = .ok n k) : getV b p = .tuple #[.int .i64 n, .int .i64 ((p + k : Nat) : Int), .int .i64 0] := by unfold getV; rw [h]
theorem getV_short {b : List Int} {p : Nat} (h : rd (b.drop p) = .short) : getV b p = .tuple #[.int .i64 0, .int .i64 0, .int .i64 1] := by unfold getV; rw [h]
theorem getV_form {b : List Int} {p : Nat} (h : rd (b.drop p) = .form) : getV b p = .tuple #[.int .i64 0, .int .i64 0, .int .i64 2] := by unfold getV; rw [h]
theorem rdN_more {x : Int} {cs : List Int} {i acc : Nat} (h : 128 ≤ x) (hi : i ≠ 8) : rdN (x :: cs) i acc = rdN cs (i + 1) (acc + x.toNat % 128 * 128 ^ i) := by rw [rdN, if_pos h, if_neg hi]
theorem rdN_form8 {x : Int} {cs : List Int} {acc : Nat} (h : 128 ≤ x) : rdN (x :: cs) 8 acc = .form := by rw [rdN, if_pos h, if_pos rfl]
theorem rdN_form0 {cs : List Int} {i acc : Nat} (h : 0 < i) : rdN (0 :: cs) i acc = .form := by rw [rdN, if_neg (by decide), if_pos ⟨rfl, h⟩]
theorem rdN_ok {x : Int} {cs : List Int} {i acc : Nat} (h0 : 0 ≤ x) (h : ¬ 128 ≤ x) (hi : ¬ (x = 0 ∧ 0 < i)) : rdN (x :: cs) i acc = .ok (acc + x.toNat % 128 * 128 ^ i) (i + 1) := by
  rw [rdN, if_neg h, if_neg hi, Nat.mod_eq_of_lt (by omega)]
theorem drop_at {b : List Int} {q : Nat} (h : q < b.length) : b.drop q = b.getD q 0 :: b.drop (q + 1) := by
  rw [List.drop_eq_getElem_cons h]
  simp [List.getD, h]
section
set_option maxHeartbeats 2000000
set_option maxRecDepth 100000
theorem rwithin_any (A : Option Addr) (n c p : Nat) (w : World) (hp : p ≤ n) : Calls Tryz.prog 176 #[.slice A n c, .int .i64 p] w fun e w' => e = .returned (.bool true) ∧ w = w' := by
  have h1 : (0 : Int) ≤ p := by omega
  have h2 : (p : Int) ≤ n := by omega
  go_enter Tryz.func176, Tryz.ntmps176
  go_wp2_with fail
  go_ret
  exact ⟨rfl, rfl⟩
theorem rawget_any (A : Option Addr) (n c : Nat) (b : List Int) (p : Nat) (w : World) (h : Byt w (.slice A n c) b) (hp : p ≤ b.length) (hr : inR (b.drop p) 0) :
    Calls Tryz.prog 161 #[.slice A n c, .int .i64 p] w fun e w' => e = .returned (getV b p) ∧ w = w' := by
  have hn := h.len
  have H := Lib.hid h
  have Hr := Lib.hid hr
  clear h hr
  have hnl := hn.1
  subst hnl
  go_enter Tryz.func161, Tryz.ntmps161
  go_wp2_with fail
  refine wp_scope_jumps 0 (fun a' w' => ∃ (i : Nat) (acc : Nat) (U8 U9 U10 U11 U12 U13 U14 U15 U16 U17 U18 U19 U20 U21 U22 U23 U24 U25 U26 U27 U28 U29 U30 U31 U32 U33 U34 U35 U36 U37 U38 : Value), a' = { tmps := #[.slice A b.length c, .int .i64 p, undef, undef, .int .i64 acc, .int .i64 0, .int .i64 0, .int .i64 i, U8, U9, U10, U11, U12, U13, U14, U15, U16, U17, U18, U19, U20, U21, U22, U23, U24, U25, U26, U27, U28, U29, U30, U31, U32, U33, U34, U35, U36, U37, U38, undef, undef, undef, undef, undef, undef, undef, undef, undef, undef], defers := [] } ∧ (p + i ≤ b.length ∧ i ≤ 8 ∧ acc < 128 ^ i ∧ inR (b.drop (p + i)) i ∧ rd (b.drop p) = rdN (b.drop (p + i)) i acc) ∧ w' = w) (fun a' _ => 9 - (intOf (a'.tmps.getD 7 undef)).toNat) rfl ?_ ?_
  · go_wp2_with fail
    refine (rwithin_any A b.length c p w hp).mono ?_
    rintro e w1 ⟨rfl, e1⟩
    rw [← e1]
    clear e1
    by_cases hlt : p < b.length
    · obtain ⟨g, o, rfl, hc⟩ := H.out.cellAt hlt
      generalize hx : b.getD p 0 = x at *
      have Hx := Lib.hid hx
      clear hx
      have hpl : ¬ (p : Int) = b.length := by omega
      have hpl2 : (p : Int) < b.length := by omega
      have hxr : 0 ≤ x ∧ x ≤ 255 := by
        have := Hr.out
        rw [drop_at hlt, Hx.out] at this
        exact this.1
      have e1 := and127 hxr
      have hy : x.toNat % 128 < 128 := Nat.mod_lt _ (by decide)
      have Hy := Lib.hid (show ((x.toNat % 128 : Nat) : Int) = ((0 + x.toNat % 128 * 128 ^ 0 : Nat) : Int) from by simp)
      have HyE := Lib.hid (rfl : x.toNat % 128 = x.toNat % 128)
      generalize hyy : x.toNat % 128 = y at e1 hy Hy
      have Hyy := Lib.hid hyy
      clear hyy HyE
      have e2 : IntKind.i64.wrap (y : Int) = y := IntWalk.i64_in _ (by omega)
      have e4 : bits BinOp.or IntKind.i64 0 (y : Int) = y := by
        have := (or63 0 y 0 (by decide) hy (by decide)).2
        simpa using this
      by_cases h128 : 128 ≤ x
      · have HN := Lib.hid (show rd (b.drop p) = rdN (b.drop (p + 1)) 1 (0 + y * 128 ^ 0) from by
          rw [drop_at hlt, Hx.out]
          have := rdN_more (cs := b.drop (p + 1)) (acc := 0) h128 (show (0 : Nat) ≠ 8 by decide)
          rw [Hyy.out] at this
          exact this)
        have HR1 := Lib.hid (show inR (b.drop (p + 1)) 1 from by
          have := Hr.out
          rw [drop_at hlt, Hx.out] at this
          exact this.2 h128 (by decide))
        have HA1 := Lib.hid (show y < 128 ^ 1 from by omega)
        go_wp2_with fail
        go_step3
        go_wp2_with fail
        go_step3
        refine ⟨rfl, 1, y, _, _, _, _, _, _, _, _, _, _, _, _, _, _, _, _, _, _, _, _, _, _, _, _, _, _, _, _, _, _, _, rfl, ⟨by omega, by decide, HA1.out, HR1.out, ?_⟩, rfl⟩
        have := HN.out
        rwa [show 0 + y * 128 ^ 0 = y from by simp] at this
      · have HN := Lib.hid (show rd (b.drop p) = .ok y 1 from by
          rw [drop_at hlt, Hx.out]
          have := rdN_ok (cs := b.drop (p + 1)) (acc := 0) hxr.1 h128 (show ¬ (x = 0 ∧ 0 < 0) by omega)
          rw [Hyy.out] at this
          rw [show 0 + y * 128 ^ 0 = y from by simp] at this
          exact this)
        have HG := Lib.hid (getV_ok HN.out)
        have ep : ((p + 1 : Nat) : Int) = (p : Int) + 1 := by omega
        have Hep := Lib.hid ep
        clear ep
        go_wp2_with fail
        go_step3
        go_wp2_with fail
        all_goals
          try simp only [Exit.jump]
          go_ret3
          exact ⟨by rw [HG.out, Hep.out]; rfl, rfl⟩
    · obtain rfl : p = b.length := by omega
      have HG := Lib.hid (getV_short (b := b) (p := b.length) (by rw [List.drop_length]; rfl))
      go_wp2_with fail
      go_step3
      go_wp2_with fail
      try simp only [Exit.jump]
      go_ret3
      exact ⟨by rw [HG.out]; rfl, rfl⟩
  · rintro a' w1 ⟨i, acc, U8, U9, U10, U11, U12, U13, U14, U15, U16, U17, U18, U19, U20, U21, U22, U23, U24, U25, U26, U27, U28, U29, U30, U31, U32, U33, U34, U35, U36, U37, U38, rfl, ⟨hi, hi8, hacc, hR, hE⟩, rfl⟩
    have HR := Lib.hid hR
    have HE := Lib.hid hE
    have Hacc := Lib.hid hacc
    clear hR hE hacc Hr
    obtain ⟨q, hq⟩ : ∃ q, q = p + i := ⟨_, rfl⟩
    have hq1 : (p : Int) + i = q := by omega
    rw [← hq] at HR HE
    have Hq := Lib.hid hq
    clear hq
    by_cases hlt : q < b.length
    · obtain ⟨g, o, rfl, hc⟩ := H.out.cellAt hlt
      generalize hx : b.getD q 0 = x at *
      have Hx := Lib.hid hx
      clear hx
      have hpl : ¬ (q : Int) = b.length := by omega
      have hpl2 : (q : Int) < b.length := by omega
      have hxr : 0 ≤ x ∧ x ≤ 255 := by
        have := HR.out
        rw [drop_at hlt, Hx.out] at this
        exact this.1
      have e1 := and127 hxr
      have hy : x.toNat % 128 < 128 := Nat.mod_lt _ (by decide)
      generalize hyy : x.toNat % 128 = y at e1 hy
      have Hyy := Lib.hid hyy
      clear hyy
      have e2 : IntKind.i64.wrap (y : Int) = y := IntWalk.i64_in _ (by omega)
      have e3 := sh63 acc y i Hacc.out hy hi8
      rw [IntWalk.i64_left] at e3
      have e4 := (or63 acc y i Hacc.out hy hi8).2
      have H63 := Lib.hid (or63 acc y i Hacc.out hy hi8).1
      generalize hY : y * 128 ^ i = Y at e3 e4 H63
      have HY := Lib.hid hY
      clear hY
      generalize hZ : acc + Y = Z at e4 H63
      have HZ := Lib.hid hZ
      clear hZ
      by_cases h128 : 128 ≤ x
      · by_cases h8 : i = 8
        · have HG := Lib.hid (getV_form (b := b) (p := p) (by rw [HE.out, drop_at hlt, Hx.out, h8]; exact rdN_form8 h128))
          have h9 : (i : Int) + 1 = 9 := by omega
          clear h8
          go_wp2_with fail
          try simp only [Exit.jump]
          go_ret3
          exact ⟨by rw [HG.out]; rfl, rfl⟩
        · have h9 : ¬ (i : Int) + 1 = 9 := by omega
          have HN := Lib.hid (show rd (b.drop p) = rdN (b.drop (q + 1)) (i + 1) Z from by
            rw [HE.out, drop_at hlt, Hx.out]
            have := rdN_more (cs := b.drop (q + 1)) (acc := acc) h128 h8
            rw [Hyy.out, HY.out, HZ.out] at this
            exact this)
          have HR1 := Lib.hid (show inR (b.drop (q + 1)) (i + 1) from by
            have := HR.out
            rw [drop_at hlt, Hx.out] at this
            exact this.2 h128 (by omega))
          have HA1 := Lib.hid (show Z < 128 ^ (i + 1) from by
            rw [← HZ.out, ← HY.out, Nat.pow_succ]
            have := Nat.mul_le_mul_right (128 ^ i) (show y ≤ 127 by omega)
            have := Hacc.out
            omega)
          go_wp2_with fail
          go_step3
          refine ⟨rfl, ⟨i + 1, Z, _, _, _, _, _, _, _, _, _, _, _, _, _, _, _, _, _, _, _, _, _, _, _, _, _, _, _, _, _, _, _, rfl, ⟨by have := Hq.out; omega, by omega, HA1.out, ?_, ?_⟩, rfl⟩, ?_⟩
          · have := HR1.out
            rwa [Hq.out, Nat.add_assoc] at this
          · have := HN.out
            rwa [Hq.out, Nat.add_assoc] at this
          · simp [intOf]; omega
      · by_cases h0 : x = 0 ∧ 0 < i
        · obtain ⟨rfl, h0i⟩ := h0
          have HG := Lib.hid (getV_form (b := b) (p := p) (by rw [HE.out, drop_at hlt, Hx.out]; exact rdN_form0 h0i))
          have h1i : (1 : Int) < (i : Int) + 1 := by omega
          go_wp2_with fail
          try simp only [Exit.jump]
          go_ret3
          exact ⟨by rw [HG.out]; rfl, rfl⟩
        · have HN := Lib.hid (show rd (b.drop p) = .ok Z (i + 1) from by
            rw [HE.out, drop_at hlt, Hx.out]
            have := rdN_ok (cs := b.drop (q + 1)) (acc := acc) hxr.1 h128 h0
            rw [Hyy.out, HY.out, HZ.out] at this
            exact this)
          have HG := Lib.hid (getV_ok HN.out)
          have Hep := Lib.hid (show ((p + (i + 1) : Nat) : Int) = (p : Int) + ((i : Int) + 1) from by omega)
          by_cases hx0 : x = 0
          · have h1i : ¬ (1 : Int) < (i : Int) + 1 := by omega
            clear h0
            subst hx0
            go_wp2_with fail
            try simp only [Exit.jump]
            go_ret3
            exact ⟨by rw [HG.out, Hep.out]; rfl, rfl⟩
          · clear h0
            go_wp2_with fail
            try simp only [Exit.jump]
            go_ret3
            exact ⟨by rw [HG.out, Hep.out]; rfl, rfl⟩
    · obtain rfl : q = b.length := by have := Hq.out; omega
      have HG := Lib.hid (getV_short (b := b) (p := p) (by rw [HE.out, List.drop_length]; rfl))
      go_wp2_with fail
      try simp only [Exit.jump]
      go_ret3
      exact ⟨by rw [HG.out]; rfl, rfl⟩
end
end Go.Proofs.YtcphifphidcbaaaGreat
