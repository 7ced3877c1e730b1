/- raw.Put, PutText, PutTruth; the document's Put and Text. -/
import Derived.Test.YtcphifphidcbaaaGreatByt
import Derived.Test.YtcphifphidcbaaaGreatRplL
import Derived.WalkMore
import Derived.ScopeJumps
namespace Go.Proofs.YtcphifphidcbaaaGreat
open Go.RowKit
set_option linter.unusedVariables false
set_option linter.unusedSimpArgs false
/-- how far a number is put: pre of its bytes stand, n' is left -/
structure Left (N : Nat) (pre : List Int) (n' : Nat) : Prop where
  ex : ∃ f, encN N = pre ++ encF f n' ∧ n' < 128 ^ (f + 1) ∧ pre.length + f = 8
theorem Left.first (N : Nat) (h : N < 2 ^ 63) : Left N [] N := ⟨8, rfl, Nat.lt_of_lt_of_eq h (by decide), rfl⟩
theorem Left.next {N n' : Nat} {pre : List Int} (h : Left N pre n') (hn : 128 ≤ n') : Left N (pre ++ [((128 + n' % 128 : Nat) : Int)]) (n' / 128) := by
  obtain ⟨f, e, hl, hf⟩ := h.ex
  cases f with
  | zero => simp at hl; omega
  | succ f =>
    refine ⟨f, ?_, ?_, by simp; omega⟩
    · rw [e, encF, if_neg (by omega), List.append_assoc]; rfl
    · rw [Nat.div_lt_iff_lt_mul (by decide), ← Nat.pow_succ]; exact hl
theorem Left.last {N n' : Nat} {pre : List Int} (h : Left N pre n') (hn : n' < 128) : encN N = pre ++ [(n' : Int)] := by
  obtain ⟨f, e, hl, hf⟩ := h.ex
  rw [e]
  cases f with
  | zero => rfl
  | succ f => rw [encF, if_pos hn]
theorem Left.len {N n' : Nat} {pre : List Int} (h : Left N pre n') : pre.length ≤ 8 := by obtain ⟨f, _, _, hf⟩ := h.ex; omega
theorem Left.le {N n' : Nat} {pre : List Int} (h : Left N pre n') : n' < 2 ^ 63 := by
  obtain ⟨f, _, hl, hf⟩ := h.ex
  have : (128 : Nat) ^ (f + 1) ≤ 128 ^ 9 := Nat.pow_le_pow_right (by decide) (by omega)
  have e : (128 : Nat) ^ 9 = 2 ^ 63 := by decide
  omega
theorem or128 (N : Nat) : bits BinOp.or IntKind.u8 ((N : Int) % 256) 128 = ((128 + N % 128 : Nat) : Int) := by
  have key : ∀ m, m < 256 → bits BinOp.or IntKind.u8 ((m : Nat) : Int) 128 = ((128 + m % 128 : Nat) : Int) := by decide +kernel
  have := key (N % 256) (by omega)
  rw [show (((N % 256 : Nat)) : Int) = (N : Int) % 256 from by simp, show 128 + N % 256 % 128 = 128 + N % 128 from by omega] at this
  exact this
section
set_option maxHeartbeats 2000000
set_option maxRecDepth 100000
theorem rawput_pos (v : Value) (l : List Int) (N : Nat) (w : World) (h : Byt w v l) (hl : l.length ≤ 1000000) (hn : N < 2 ^ 63) (hn0 : 0 < N) :
    Calls Tryz.prog 164 #[v, .int .i64 N] w (Fresh (l ++ encN N) w) := by
  have HC := Lib.hid (clone_any v l w h)
  have HL0 := Lib.hid (Left.first N hn)
  obtain ⟨A, c, rfl, _, _, _⟩ := h
  have hpos : (0 : Int) < N := by omega
  have hpos2 : ¬ (N : Int) ≤ 0 := by omega
  go_enter Tryz.func164, Tryz.ntmps164
  go_wp2_with fail
  refine wp_scope_jumps 0 (fun a' w' => ∃ (N' : Nat) (pre : List Int) (vo u6 u7 u8 u9 u10 u11 u12 u13 u14 u15 u16 u17 u18 u19 : Value), a' = { tmps := #[.slice A l.length c, .int .i64 N', undef, undef, .slice none 0 0, vo, u6, u7, u8, u9, u10, u11, u12, u13, u14, u15, u16, u17, u18, u19, undef, undef, undef, undef, undef], defers := [] } ∧ Left N pre N' ∧ Row 5 w' vo (bytes (l ++ pre)) ∧ (∀ k, ownB vo k → w.heap.size ≤ k) ∧ Only Non w w') (fun a' _ => (intOf (a'.tmps.getD 1 undef)).toNat) rfl ?_ ?_
  · go_wp2_with fail
    refine HC.out.mono ?_
    rintro e wr ⟨v5, rfl, hrow, ho, hown⟩
    obtain ⟨B, q5, e5, _, _⟩ := hrow.shape
    rw [show bytes l = bytes (l ++ []) from by rw [List.append_nil]] at hrow
    have Hrow := Lib.hid hrow
    have Ho := Lib.hid ho
    have Hown := Lib.hid hown
    clear hrow ho hown
    generalize hn5 : (bytes l).length = n5 at *
    have Hn5 := Lib.hid hn5
    clear hn5
    subst e5
    generalize hpre : ([] : List Int) = pre at *
    clear hpre
    have HL := HL0
    clear HL0
    generalize hN' : (N : Int) = X at *
    obtain ⟨N', rfl⟩ : ∃ N' : Nat, X = N' := ⟨N, hN'.symm⟩
    have hNN : N = N' := by omega
    rw [hNN] at HL
    go_wp2_with fail
    go_step3
    have hN := HL.out.le
    have L1 := Lib.hid (show (bytes (l ++ pre)).length + 1 ≤ maxLen from by have := HL.out.len; simp [maxLen]; omega)
    have L2 := Lib.hid (show ((bytes (l ++ pre)).length + 1) * 1 ≤ 140737488355328 from by have := HL.out.len; simp; omega)
    by_cases h128 : 128 ≤ N'
    · have hc1 : (128 : Int) ≤ N' := by omega
      have hor : bits BinOp.or IntKind.u8 ((N' : Int) % 256) 128 = ((128 + N' % 128 : Nat) : Int) := or128 N'
      have HL2 := Lib.hid (HL.out.next h128)
      generalize hq : 128 + N' % 128 = z at *
      clear hq
      go_wp2_with (at_builtin; refine wpList_append_row _ rfl (.tmp 12) (.tmp 16) 23 5 rfl byteInfo rfl Tryz.underlying23 (.slice B n5 q5) (bytes (l ++ pre)) rfl (Hrow.out.only ((Only.refl Non wr).alloc _) fun _ _ => id) (some ⟨wr.heap.size, 0, none⟩) 1 1 [.int .u8 ((z : Nat) : Int)] rfl rfl (one_src wr (.int .u8 ((z : Nat) : Int)) 5) (by simp [Value.oneCell']) L1.out L2.out ?_
                   intro v1 w1 hrow1 hgrow1 hown1 _
                   have Hrow1 := Lib.hid (show Row 5 w1 v1 (bytes (l ++ (pre ++ [((z : Nat) : Int)]))) from by rw [← List.append_assoc]; simpa [bytes] using hrow1)
                   have Ho1 := Lib.hid ((Ho.out.alloc (.cells #[.int .u8 ((z : Nat) : Int)] 5)).trans' hgrow1 fun k hk => .inr (Hown.out k hk))
                   have Hown1 := Lib.hid (show ∀ k, ownB v1 k → w.heap.size ≤ k from fun k hk => (hown1 k hk).elim (Hown.out k) fun h => by have := Ho.out.size; rw [World.size_alloc] at h; omega)
                   clear hrow1 hgrow1 hown1)
      rw [show (N' : Int) / 128 = ((N' / 128 : Nat) : Int) from by omega]
      go_step3
      refine ⟨rfl, N' / 128, pre ++ [((z : Nat) : Int)], v1, _, _, _, _, _, _, _, _, _, _, _, _, _, _, rfl, ?_, Hrow1.out, Hown1.out, Ho1.out⟩
      first | exact HL2.out | (rw [hNN]; exact HL2.out)

    · have hc1 : ¬ (128 : Int) ≤ N' := by omega
      have hlt : (N' : Int) % 256 = N' := by omega
      have HL2 := Lib.hid (HL.out.last (by omega))
      go_wp2_with (at_builtin; refine wpList_append_row _ rfl (.tmp 20) (.tmp 23) 23 5 rfl byteInfo rfl Tryz.underlying23 (.slice B n5 q5) (bytes (l ++ pre)) rfl (Hrow.out.only ((Only.refl Non wr).alloc _) fun _ _ => id) (some ⟨wr.heap.size, 0, none⟩) 1 1 [.int .u8 ((N' : Nat) : Int)] rfl rfl (one_src wr (.int .u8 ((N' : Nat) : Int)) 5) (by simp [Value.oneCell']) L1.out L2.out ?_
                   intro v1 w1 hrow1 hgrow1 hown1 _
                   have Hrow1 := Lib.hid (show Row 5 w1 v1 (bytes (l ++ (pre ++ [((N' : Nat) : Int)]))) from by rw [← List.append_assoc]; simpa [bytes] using hrow1)
                   have Ho1 := Lib.hid ((Ho.out.alloc (.cells #[.int .u8 ((N' : Nat) : Int)] 5)).trans' hgrow1 fun k hk => .inr (Hown.out k hk))
                   have Hown1 := Lib.hid (show ∀ k, ownB v1 k → w.heap.size ≤ k from fun k hk => (hown1 k hk).elim (Hown.out k) fun h => by have := Ho.out.size; rw [World.size_alloc] at h; omega)
                   clear hrow1 hgrow1 hown1)
      simp only [Exit.jump]
      go_ret
      try rw [hNN]
      refine ⟨v1, rfl, ?_, Ho1.out, Hown1.out⟩
      rw [HL2.out]
      exact Hrow1.out
  · rintro a' wr ⟨N', pre, vo, u6, u7, u8, u9, u10, u11, u12, u13, u14, u15, u16, u17, u18, u19, rfl, hL, hrow, hown, ho⟩
    have HL := Lib.hid hL
    have Hn5 := Lib.hid hn
    obtain ⟨B, q5, e5, _, _⟩ := hrow.shape
    have Hrow := Lib.hid hrow
    have Ho := Lib.hid ho
    have Hown := Lib.hid hown
    clear hrow ho hown hL HL0 HC
    generalize (bytes (l ++ pre)).length = n5 at *
    subst e5
    have hN := HL.out.le
    have L1 := Lib.hid (show (bytes (l ++ pre)).length + 1 ≤ maxLen from by have := HL.out.len; simp [maxLen]; omega)
    have L2 := Lib.hid (show ((bytes (l ++ pre)).length + 1) * 1 ≤ 140737488355328 from by have := HL.out.len; simp; omega)
    by_cases h128 : 128 ≤ N'
    · have hc1 : (128 : Int) ≤ N' := by omega
      have hor : bits BinOp.or IntKind.u8 ((N' : Int) % 256) 128 = ((128 + N' % 128 : Nat) : Int) := or128 N'
      have HL2 := Lib.hid (HL.out.next h128)
      generalize hq : 128 + N' % 128 = z at *
      clear hq
      go_wp2_with (at_builtin; refine wpList_append_row _ rfl (.tmp 12) (.tmp 16) 23 5 rfl byteInfo rfl Tryz.underlying23 (.slice B n5 q5) (bytes (l ++ pre)) rfl (Hrow.out.only ((Only.refl Non wr).alloc _) fun _ _ => id) (some ⟨wr.heap.size, 0, none⟩) 1 1 [.int .u8 ((z : Nat) : Int)] rfl rfl (one_src wr (.int .u8 ((z : Nat) : Int)) 5) (by simp [Value.oneCell']) L1.out L2.out ?_
                   intro v1 w1 hrow1 hgrow1 hown1 _
                   have Hrow1 := Lib.hid (show Row 5 w1 v1 (bytes (l ++ (pre ++ [((z : Nat) : Int)]))) from by rw [← List.append_assoc]; simpa [bytes] using hrow1)
                   have Ho1 := Lib.hid ((Ho.out.alloc (.cells #[.int .u8 ((z : Nat) : Int)] 5)).trans' hgrow1 fun k hk => .inr (Hown.out k hk))
                   have Hown1 := Lib.hid (show ∀ k, ownB v1 k → w.heap.size ≤ k from fun k hk => (hown1 k hk).elim (Hown.out k) fun h => by have := Ho.out.size; rw [World.size_alloc] at h; omega)
                   clear hrow1 hgrow1 hown1)
      rw [show (N' : Int) / 128 = ((N' / 128 : Nat) : Int) from by omega]
      go_step3
      refine ⟨rfl, ⟨N' / 128, pre ++ [((z : Nat) : Int)], v1, _, _, _, _, _, _, _, _, _, _, _, _, _, _, rfl, ?_, Hrow1.out, Hown1.out, Ho1.out⟩, ?_⟩
      · exact HL2.out
      · simp [intOf]; omega
    · have hc1 : ¬ (128 : Int) ≤ N' := by omega
      have hlt : (N' : Int) % 256 = N' := by omega
      have HL2 := Lib.hid (HL.out.last (by omega))
      go_wp2_with (at_builtin; refine wpList_append_row _ rfl (.tmp 20) (.tmp 23) 23 5 rfl byteInfo rfl Tryz.underlying23 (.slice B n5 q5) (bytes (l ++ pre)) rfl (Hrow.out.only ((Only.refl Non wr).alloc _) fun _ _ => id) (some ⟨wr.heap.size, 0, none⟩) 1 1 [.int .u8 ((N' : Nat) : Int)] rfl rfl (one_src wr (.int .u8 ((N' : Nat) : Int)) 5) (by simp [Value.oneCell']) L1.out L2.out ?_
                   intro v1 w1 hrow1 hgrow1 hown1 _
                   have Hrow1 := Lib.hid (show Row 5 w1 v1 (bytes (l ++ (pre ++ [((N' : Nat) : Int)]))) from by rw [← List.append_assoc]; simpa [bytes] using hrow1)
                   have Ho1 := Lib.hid ((Ho.out.alloc (.cells #[.int .u8 ((N' : Nat) : Int)] 5)).trans' hgrow1 fun k hk => .inr (Hown.out k hk))
                   have Hown1 := Lib.hid (show ∀ k, ownB v1 k → w.heap.size ≤ k from fun k hk => (hown1 k hk).elim (Hown.out k) fun h => by have := Ho.out.size; rw [World.size_alloc] at h; omega)
                   clear hrow1 hgrow1 hown1)
      simp only [Exit.jump]
      go_ret
      skip
      refine ⟨v1, rfl, ?_, Ho1.out, Hown1.out⟩
      rw [HL2.out]
      exact Hrow1.out
end
end Go.Proofs.YtcphifphidcbaaaGreat
