/- A law for appends to bytes of the call's own; PutTruth; the document's Put and Text. -/
import Derived.Test.YtaofjnpmnaohcaaRawB
namespace Go.Proofs.Ytaofjnpmnaohcaa
open Go.RowKit
set_option linter.unusedVariables false
set_option linter.unusedSimpArgs false
/-- append of bytes onto bytes of the call's own -/
theorem wpList_more {ops : Array Oper} {rest : List Oper} {o : Oper} {a : Act} {Q : Exit → Act → World → Prop} (w0 w : World) (hgd : o.guard = none) (s x : Operand)
    (ho : o.op = .call { callee := .builtin .append, args := #[s, x], argTypes := #[29, 29] }) (v : Value) (l : List Int) (hs : a.eval s = v) (hrow : Row 5 w v (bytes l)) (hon : Only Non w0 w) (hown : ∀ k, ownB v k → w0.heap.size ≤ k)
    (A : Option Addr) (n c : Nat) (t : List Int) (hx : a.eval x = .slice A n c) (hn : n = t.length) (hsrc : Src w A (bytes t)) (hlen : l.length + t.length ≤ 2000000)
    (h : ∀ v1 w1, Row 5 w1 v1 (bytes (l ++ t)) → Only Non w0 w1 → (∀ k, ownB v1 k → w0.heap.size ≤ k) → wpList Try.prog ops Q rest (a.put o.dst v1) w1) : wpList Try.prog ops Q (o :: rest) a w := by
  refine wpList_append_row w hgd s x 29 5 ho byteInfo rfl Try.underlying29 v (bytes l) hs hrow A n c (bytes t) hx (by rw [bytes_len]; exact hn) hsrc (bytes_one t) (by rw [bytes_len, bytes_len]; unfold maxLen; omega) (by rw [bytes_len, bytes_len]; omega) ?_
  intro v1 w1 hrow1 hgrow1 hown1 _
  refine h v1 w1 (by rw [bytes_app]; exact hrow1) (hon.trans' hgrow1 fun k hk => .inr (hown k hk)) fun k hk => (hown1 k hk).elim (hown k) fun h => by have := hon.size; omega
theorem byte_src (w : World) (x : Int) : Src (w.alloc (.cells #[.int .u8 x] 5)) (some ⟨w.heap.size, 0, none⟩) (bytes [x]) := one_src w (.int .u8 x) 5
def truthB (b : Bool) : List Int := if b then [1] else [0]
section
set_option maxHeartbeats 2000000
set_option maxRecDepth 100000
theorem puttruth_any (v : Value) (l : List Int) (b : Bool) (w : World) (h : Byt w v l) (hl : l.length ≤ 1000000) : Calls Try.prog 32 #[v, .bool b] w (Fresh (l ++ truthB b) w) := by
  have HC := Lib.hid (clone_any v l w h)
  obtain ⟨A, c, rfl, _, _, _⟩ := h
  cases b
  all_goals
    go_enter Try.func32, Try.ntmps32
    go_wp2_with fail
    refine HC.out.mono ?_
    rintro e wr ⟨v5, rfl, hrow, ho, hown⟩
    obtain ⟨B, q5, e5, _, _⟩ := hrow.shape
    have Hrow := Lib.hid hrow
    have Ho := Lib.hid ho
    have Hown := Lib.hid hown
    have Hl := Lib.hid hl
    clear hrow ho hown
    generalize (bytes l).length = n5 at *
    subst e5
    go_wp2_with (first
      | (at_builtin; refine wpList_more w _ rfl (.tmp 11) (.tmp 12) rfl (.slice B n5 q5) l rfl (Hrow.out.only ((Only.refl Non wr).alloc _) fun _ _ => id) (Ho.out.alloc _) Hown.out (some ⟨wr.heap.size, 0, none⟩) 1 1 [0] rfl rfl (byte_src wr 0) (by have := Hl.out; simp; omega) ?_
         intro v1 w1 hrow1 ho1 hown1
         have HF := Lib.hid (And.intro hrow1 (And.intro ho1 hown1))
         clear hrow1 ho1 hown1)
      | (at_builtin; refine wpList_more w _ rfl (.tmp 7) (.tmp 8) rfl (.slice B n5 q5) l rfl (Hrow.out.only ((Only.refl Non wr).alloc _) fun _ _ => id) (Ho.out.alloc _) Hown.out (some ⟨wr.heap.size, 0, none⟩) 1 1 [1] rfl rfl (byte_src wr 1) (by have := Hl.out; simp; omega) ?_
         intro v1 w1 hrow1 ho1 hown1
         have HF := Lib.hid (And.intro hrow1 (And.intro ho1 hown1))
         clear hrow1 ho1 hown1))
    go_ret
    exact ⟨v1, rfl, HF.out.1, HF.out.2.1, HF.out.2.2⟩
def RfRel (N : Nat) (w : World) (nv vo : Value) (wr : World) : Prop :=
  ∃ (N' : Nat) (pre : List Int), nv = .int .i64 N' ∧ Left N pre N' ∧ Row 5 wr vo (bytes pre) ∧ (∀ k, ownB vo k → w.heap.size ≤ k) ∧ Only Non w wr
theorem refput_any (N : Nat) (w : World) (hn : N < 2 ^ 63) : Calls Try.prog 21 #[.int .i64 N] w (Fresh (encN N) w) := by
  have HL0 := Lib.hid (Left.first N hn)
  have h0 : ¬ (N : Int) < 0 := by omega
  go_enter Try.func21, Try.ntmps21
  go_wp2_with fail
  go_loopw [0, 3] (fun nv vo wr => RfRel N w nv vo wr) (fun nv _ _ => (intOf nv).toNat)
  case atStart => exact ⟨N, [], rfl, HL0.out, Row.nil_ _ _, fun k hk => (ownB_none hk).elim, Only.refl _ _⟩
  case round =>
    clear HL0 h0
    obtain ⟨N', pre, rfl, hL, hrow, hown, ho⟩ := hrel
    have hN := hL.le
    have hpl := hL.len
    have HL := Lib.hid hL
    obtain ⟨B, q5, e5, _, _⟩ := hrow.shape
    have Hrow := Lib.hid hrow
    have Ho := Lib.hid ho
    have Hown := Lib.hid hown
    clear hrow ho hown hL
    generalize (bytes pre).length = n5 at *
    subst e5
    by_cases h128 : 128 ≤ N'
    · have hc1 : 127 < (N' : Int) := by omega
      have HL2 := Lib.hid (HL.out.next h128)
      have hor : 128 + (N' : Int) % 128 = ((128 + N' % 128 : Nat) : Int) := by omega
      generalize 128 + N' % 128 = z at *
      go_wp2_with (at_builtin; refine wpList_more w _ rfl (.tmp 8) (.tmp 13) rfl (.slice B n5 q5) pre rfl (Hrow.out.only ((Only.refl Non wr).alloc _) fun _ _ => id) (Ho.out.alloc _) Hown.out (some ⟨wr.heap.size, 0, none⟩) 1 1 [((z : Nat) : Int)] rfl rfl (byte_src wr z) (by simp; omega) ?_
                   intro v1 w1 hrow1 ho1 hown1
                   have HF := Lib.hid (And.intro hrow1 (And.intro ho1 hown1))
                   clear hrow1 ho1 hown1)
      have hdiv : (N' : Int) / 128 = ((N' / 128 : Nat) : Int) := by omega
      refine ⟨⟨N' / 128, pre ++ [((z : Nat) : Int)], by rw [← hdiv], HL2.out, HF.out.1, HF.out.2.2, HF.out.2.1⟩, by simp [intOf]; omega⟩
    · have hc1 : ¬ 127 < (N' : Int) := by omega
      have hlt : (N' : Int) % 256 = N' := by omega
      have HL2 := Lib.hid (HL.out.last (by omega))
      go_wp2_with (at_builtin; refine wpList_more w _ rfl (.tmp 17) (.tmp 20) rfl (.slice B n5 q5) pre rfl (Hrow.out.only ((Only.refl Non wr).alloc _) fun _ _ => id) (Ho.out.alloc _) Hown.out (some ⟨wr.heap.size, 0, none⟩) 1 1 [((N' : Nat) : Int)] rfl rfl (byte_src wr N') (by simp; omega) ?_
                   intro v1 w1 hrow1 ho1 hown1
                   have HF := Lib.hid (And.intro hrow1 (And.intro ho1 hown1))
                   clear hrow1 ho1 hown1)
      go_ret
      exact ⟨v1, rfl, by rw [HL2.out]; exact HF.out.1, HF.out.2.1, HF.out.2.2⟩
theorem reftext_any (u : Value) (t : List Int) (w : World) (hu : Byt w u t) (ht : t.length ≤ 1000000) : Calls Try.prog 20 #[u] w (Fresh (encN t.length ++ t) w) := by
  have HP := Lib.hid (refput_any t.length w (by omega))
  have Hu := Lib.hid hu
  obtain ⟨B, d, rfl, _, _, _⟩ := hu
  have hel := encN_len t.length
  have Hel := Lib.hid hel
  have hsw : (t.length : Int) ≤ 1000000 := by omega
  generalize ht' : t.length = tn at *
  have Ht2 := Lib.hid ht'
  clear ht' hel
  go_enter Try.func20, Try.ntmps20
  go_wp2_with fail
  refine HP.out.mono ?_
  rintro e wr ⟨v5, rfl, hrow, ho, hown⟩
  obtain ⟨B5, q5, e5, _, _⟩ := hrow.shape
  have Hrow := Lib.hid hrow
  have Ho := Lib.hid ho
  have Hown := Lib.hid hown
  have Hsrc := Lib.hid (show Src wr B (bytes t) from by
    obtain ⟨_, _, e, _, _, h3⟩ := Hu.out.only ho fun _ _ => id
    injection e with e1
    subst e1
    exact h3)
  clear hrow ho hown
  generalize (bytes (encN tn)).length = n5 at *
  subst e5
  go_wp2_with (at_builtin; refine wpList_more w _ rfl (.tmp 7) (.tmp 8) rfl (.slice B5 n5 q5) (encN tn) rfl Hrow.out Ho.out Hown.out B tn d t rfl Ht2.out.symm Hsrc.out (by have := Hel.out; have := Ht2.out; omega) ?_
               intro v1 w1 hrow1 ho1 hown1
               have HF := Lib.hid (And.intro hrow1 (And.intro ho1 hown1))
               clear hrow1 ho1 hown1)
  go_ret
  exact ⟨v1, rfl, HF.out.1, HF.out.2.1, HF.out.2.2⟩
end
end Go.Proofs.Ytaofjnpmnaohcaa
