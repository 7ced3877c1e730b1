/- raw.Put at every number that isn't below 0, PutText, PutTruth; the document's Put and Text. -/
import Derived.Test.YtcphifphidcbaaaGreatRawA
namespace Go.Proofs.YtcphifphidcbaaaGreat
open Go.RowKit
set_option linter.unusedVariables false
set_option linter.unusedSimpArgs false
theorem bytes_len (l : List Int) : (bytes l).length = l.length := List.length_map ..
theorem bytes_app (a b : List Int) : bytes (a ++ b) = bytes a ++ bytes b := List.map_append
theorem Row.bytesAt {w : World} {v : Value} {l : List Int} (h : Row 5 w v (bytes l)) (hl : l.length ≤ 140737488355328) : Byt w v l := Row.byt h hl
section
set_option maxHeartbeats 2000000
set_option maxRecDepth 100000
theorem rawput_zero (v : Value) (l : List Int) (w : World) (h : Byt w v l) (hl : l.length ≤ 1000000) : Calls Tryz.prog 164 #[v, .int .i64 0] w (Fresh (l ++ encN 0) w) := by
  have HC := Lib.hid (clone_any v l w h)
  obtain ⟨A, c, rfl, _, _, _⟩ := h
  go_enter Tryz.func164, Tryz.ntmps164
  go_wp2_with fail
  go_step3
  go_wp2_with fail
  refine HC.out.mono ?_
  rintro e wr ⟨v5, rfl, hrow, ho, hown⟩
  obtain ⟨B, q5, e5, _, _⟩ := hrow.shape
  have Hrow := Lib.hid hrow
  have Ho := Lib.hid ho
  have Hown := Lib.hid hown
  have L1 := Lib.hid (show (bytes l).length + 1 ≤ maxLen from by simp [maxLen]; omega)
  have L2 := Lib.hid (show ((bytes l).length + 1) * 1 ≤ 140737488355328 from by simp; omega)
  clear hrow ho hown
  generalize hn5 : (bytes l).length = n5 at *
  have Hn5 := Lib.hid hn5
  clear hn5
  subst e5
  go_wp2_with fail
  go_step3
  go_wp2_with (at_builtin; refine wpList_append_row _ rfl (.tmp 20) (.tmp 23) 23 5 rfl byteInfo rfl Tryz.underlying23 (.slice B n5 q5) (bytes l) rfl (Hrow.out.only ((Only.refl Non wr).alloc _) fun _ _ => id) (some ⟨wr.heap.size, 0, none⟩) 1 1 [.int .u8 0] rfl rfl (one_src wr (.int .u8 0) 5) (by simp [Value.oneCell']) (by have := L1.out; rw [Hn5.out]; exact this) (by have := L2.out; rw [Hn5.out]; exact this) ?_
               intro v1 w1 hrow1 hgrow1 hown1 _
               have Hrow1 := Lib.hid (show Row 5 w1 v1 (bytes (l ++ [0])) from by rw [bytes_app]; exact hrow1)
               have Ho1 := Lib.hid ((Ho.out.alloc (.cells #[.int .u8 0] 5)).trans' hgrow1 fun k hk => .inr (Hown.out k hk))
               have Hown1 := Lib.hid (show ∀ k, ownB v1 k → w.heap.size ≤ k from fun k hk => (hown1 k hk).elim (Hown.out k) fun h => by have := Ho.out.size; rw [World.size_alloc] at h; omega)
               clear hrow1 hgrow1 hown1)
  rw [Exit.noGoto_ret]
  go_ret
  exact ⟨v1, rfl, Hrow1.out, Ho1.out, Hown1.out⟩
end
theorem rawput_any (v : Value) (l : List Int) (N : Nat) (w : World) (h : Byt w v l) (hl : l.length ≤ 1000000) (hn : N < 2 ^ 63) : Calls Tryz.prog 164 #[v, .int .i64 N] w (Fresh (l ++ encN N) w) := by
  cases N with
  | zero => exact rawput_zero v l w h hl
  | succ N => exact rawput_pos v l (N + 1) w h hl hn (by omega)
theorem encN_len (N : Nat) : 1 ≤ (encN N).length ∧ (encN N).length ≤ 9 := encF_len 8 N
section
set_option maxHeartbeats 2000000
set_option maxRecDepth 100000
theorem puttext_any (v u : Value) (l t : List Int) (w : World) (h : Byt w v l) (hu : Byt w u t) (hl : l.length ≤ 1000000) (ht : t.length ≤ 1000000) :
    Calls Tryz.prog 134 #[v, u] w (Fresh (l ++ (encN t.length ++ t)) w) := by
  have HP := Lib.hid (rawput_any v l t.length w h hl (by omega))
  have Hu := Lib.hid hu
  obtain ⟨A, c, rfl, _, _, _⟩ := h
  obtain ⟨B, d, rfl, _, _, _⟩ := hu
  have hel := encN_len t.length
  have L1 := Lib.hid (show (bytes (l ++ encN t.length)).length + (bytes t).length ≤ maxLen from by simp [maxLen]; omega)
  have L2 := Lib.hid (show ((bytes (l ++ encN t.length)).length + (bytes t).length) * 1 ≤ 140737488355328 from by simp; omega)
  have hsw : (t.length : Int) ≤ 1000000 := by omega
  generalize ht' : t.length = tn at *
  have Ht := Lib.hid (show tn = (bytes t).length from by rw [bytes_len, ht'])
  have Ht2 := Lib.hid ht'
  clear ht' hel
  go_enter Tryz.func134, Tryz.ntmps134
  go_wp2_with fail
  refine HP.out.mono ?_
  rintro e wr ⟨v5, rfl, hrow, ho, hown⟩
  obtain ⟨B5, q5, e5, _, _⟩ := hrow.shape
  have Hrow := Lib.hid hrow
  have Ho := Lib.hid ho
  have Hown := Lib.hid hown
  have Hsrc := Lib.hid (show Src wr B (bytes t) from by
    obtain ⟨_, _, e, _, _, h3⟩ := Hu.out.only ho fun _ _ => id
    injection e with e1
    subst e1
    exact h3)
  clear hrow ho hown
  generalize hn5 : (bytes (l ++ encN tn)).length = n5 at *
  have Hn5 := Lib.hid hn5
  clear hn5
  subst e5
  go_wp2_with (at_builtin; refine wpList_append_row _ rfl (.tmp 8) (.tmp 9) 23 5 rfl byteInfo rfl Tryz.underlying23 (.slice B5 n5 q5) (bytes (l ++ encN tn)) rfl Hrow.out B tn d (bytes t) rfl Ht.out Hsrc.out (bytes_one t) (by have := L1.out; rw [Hn5.out]; exact this) (by have := L2.out; rw [Hn5.out]; exact this) ?_
               intro v1 w1 hrow1 hgrow1 hown1 _
               have Hrow1 := Lib.hid (show Row 5 w1 v1 (bytes (l ++ (encN tn ++ t))) from by rw [← List.append_assoc, bytes_app]; exact hrow1)
               have Ho1 := Lib.hid (Ho.out.trans' hgrow1 fun k hk => .inr (Hown.out k hk))
               have Hown1 := Lib.hid (show ∀ k, ownB v1 k → w.heap.size ≤ k from fun k hk => (hown1 k hk).elim (Hown.out k) fun h => by have := Ho.out.size; omega)
               clear hrow1 hgrow1 hown1)
  go_ret
  exact ⟨v1, rfl, Hrow1.out, Ho1.out, Hown1.out⟩
end
end Go.Proofs.YtcphifphidcbaaaGreat
