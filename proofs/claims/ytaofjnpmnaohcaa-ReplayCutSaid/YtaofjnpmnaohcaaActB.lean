/- Acts in memory; replay.put; the document's Act. Printed by actb.py. -/
import Derived.Test.YtaofjnpmnaohcaaActA
import Derived.Test.YtaofjnpmnaohcaaCfgG
namespace Go.Proofs.Ytaofjnpmnaohcaa
open Go.RowKit
set_option linter.unusedVariables false
set_option linter.unusedSimpArgs false
structure ActsAt (w : World) (A : Option Addr) (n c : Nat) (l : List ActR) : Prop where
  len : n = l.length
  cap : n ≤ c
  max : c ≤ maxLen
  at_ : ∀ i, i < l.length → ∃ g o dA dc, A = some ⟨g, o, none⟩ ∧ g < w.heap.size ∧ w.cell? ⟨g, o + i * 5, none⟩ = some (.int .i64 (l.getD i default).kind) ∧ w.cell? ⟨g, o + i * 5 + 1, none⟩ = some (.int .i64 (l.getD i default).a) ∧
    w.cell? ⟨g, o + i * 5 + 2, none⟩ = some (.int .i64 (l.getD i default).b) ∧ w.cell? ⟨g, o + i * 5 + 3, none⟩ = some (.int .i64 (l.getD i default).n) ∧
    w.cell? ⟨g, o + i * 5 + 4, none⟩ = some (.slice dA (l.getD i default).data.length dc) ∧ Byt w (.slice dA (l.getD i default).data.length dc) (l.getD i default).data
theorem ActsAt.keep {w w' : World} {A : Option Addr} {n c : Nat} {l : List ActR} (h : ActsAt w A n c l) (ho : Only Non w w') : ActsAt w' A n c l :=
  ⟨h.len, h.cap, h.max, fun i hi => by
    obtain ⟨g, o, dA, dc, e, hg, h0, h1, h2, h3, h4, h5⟩ := h.at_ i hi
    exact ⟨g, o, dA, dc, e, Nat.lt_of_lt_of_le hg ho.size, ho.cell h0 id, ho.cell h1 id, ho.cell h2 id, ho.cell h3 id, ho.cell h4 id, h5.only ho fun _ _ => id⟩⟩
def catN (vs : List Nat) : List Int := vs.flatMap encN
theorem catN_succ (vs : List Nat) {k : Nat} (hk : k < vs.length) : catN (vs.take (k + 1)) = catN (vs.take k) ++ encN (vs.getD k 0) := by
  unfold catN
  rw [List.take_add_one, List.flatMap_append]
  simp [List.getD, hk]
theorem catN_len (vs : List Nat) : (catN vs).length ≤ 9 * vs.length := by
  induction vs with
  | nil => simp [catN]
  | cons x vs ih =>
    have := (encN_len x).2
    have h : catN (x :: vs) = encN x ++ catN vs := rfl
    rw [h, List.length_append, List.length_cons]
    omega
def Bt (l : List Int) (w : World) (e : Ending) (w' : World) : Prop := ∃ v, e = .returned v ∧ Byt w' v l ∧ Only Non w w'
def PtRel (vs : List Nat) (l : List Int) (w : World) (b i : Value) (wr : World) : Prop := ∃ k : Nat, k ≤ vs.length ∧ i = .int .i64 k ∧ Byt wr b (l ++ catN (vs.take k)) ∧ Only Non w wr
def natsV (vs : List Nat) : List Value := vs.map fun (x : Nat) => .int .i64 (x : Int)
section
set_option maxHeartbeats 2000000
set_option maxRecDepth 100000
theorem put_any (v : Value) (l : List Int) (vs : List Nat) (A : Option Addr) (n c : Nat) (w : World) (h : Byt w v l) (hl : l.length ≤ 900000) (hv : ∀ k, k < vs.length → vs.getD k 0 < 2 ^ 63) (hn : n = vs.length) (hn4 : vs.length ≤ 4) (hs : Src w A (natsV vs)) :
    Calls Try.prog 15 #[v, .slice A n c] w (Bt (l ++ catN vs) w) := by
  subst hn
  have Hv := Lib.hid hv
  have Hs := Lib.hid hs
  have H := Lib.hid h
  obtain ⟨B, cb, e, _⟩ := h
  clear hv hs
  subst e
  go_enter Try.func15, Try.ntmps15
  go_wp2_with fail
  go_loopw [0, 9] (fun b i wr => PtRel vs l w b i wr) (fun _ i _ => vs.length - (intOf i).toNat)
  case atStart => exact ⟨0, Nat.zero_le _, rfl, by simpa [catN] using H.out, Only.refl _ _⟩
  case round =>
    clear H
    obtain ⟨k, hk, rfl, hb, ho⟩ := hrel
    have Hb := Lib.hid hb
    have Ho := Lib.hid ho
    obtain ⟨B, cb, e, _⟩ := hb
    clear ho
    by_cases hlt : k < vs.length
    · have hlti : (k : Int) < vs.length := by omega
      obtain ⟨g, o', hA, hc⟩ := (Hs.out.only Ho.out fun _ _ _ _ => id) k (.int .i64 ((vs.getD k 0 : Nat) : Int)) (by simp [natsV, List.getD, hlt])
      subst hA
      have HP := Lib.hid (rawput_any _ _ (vs.getD k 0) wr Hb.out (by have := catN_len (vs.take k); rw [List.length_append]; rw [List.length_take] at this; omega) (Hv.out k hlt))
      have Hsc := Lib.hid (catN_succ vs hlt)
      generalize hN : vs.getD k 0 = N at *
      clear hN
      generalize (l ++ catN (vs.take k)).length = nb at *
      subst e
      go_wp2_with fail
      refine HP.out.mono ?_
      rintro e wr5 ⟨v5, rfl, hrow5, ho5, hown5⟩
      have HR5 := Lib.hid (show PtRel vs l w v5 (.int .i64 ((k : Int) + 1)) wr5 from ⟨k + 1, hlt, by simp, by rw [Hsc.out, ← List.append_assoc]; exact hrow5.byt (by have := catN_len (vs.take k); rw [List.length_take] at this; have := (encN_len N).2; rw [List.length_append, List.length_append]; omega), Ho.out.transN ho5⟩)
      clear hrow5 ho5 hown5
      go_wp2_with fail
      refine ⟨?_, ?_⟩
      · (repeat first | exact ⟨HR5.out, rfl⟩ | exact HR5.out | apply Exists.intro)
      · simp [intOf]; omega
    · obtain rfl : k = vs.length := by omega
      have HF := Lib.hid (show Byt wr _ (l ++ catN vs) from by have := Hb.out; rw [List.take_length] at this; exact this)
      clear hlt hk
      generalize (l ++ catN (vs.take vs.length)).length = nb at *
      subst e
      go_wp2_with fail
      go_ret
      exact ⟨_, rfl, HF.out, Ho.out⟩
theorem act_any (a : ActR) (dA : Option Addr) (dn dc : Nat) (w : World) (hd : dn = a.data.length) (hD : Byt w (.slice dA dn dc) a.data) (hp : ActP a) :
    Calls Try.prog 23 #[.agg #[.int .i64 a.kind, .int .i64 a.a, .int .i64 a.b, .int .i64 a.n, .slice dA dn dc]] w (Fresh (actB a) w) := by
  obtain ⟨hk, ha, hb, hn, h64⟩ := hp
  have HO := Lib.hid (show Only Non w (w.alloc (.cells #[.int .i64 a.kind, .int .i64 a.a, .int .i64 a.b, .int .i64 a.n, .slice dA dn dc] 47)) from (Only.refl _ _).alloc _)
  have HB := Lib.hid (Box.fresh w 47 #[.int .i64 a.kind, .int .i64 a.a, .int .i64 a.b, .int .i64 a.n, .slice dA dn dc])
  have HD := Lib.hid hD
  have HdL := Lib.hid hd
  have Ha := Lib.hid ha
  have Hb := Lib.hid hb
  have Hn := Lib.hid hn
  have H64 := Lib.hid h64
  have HkN := Lib.hid (show a.kind = (a.kind.toNat : Nat) from by omega)
  have Hk := Lib.hid (show a.kind.toNat ≤ 10 from by omega)
  have Hend := Lib.hid (show actB a = encN a.kind.toNat ++ encN (foldedN a.a) ++ encN (foldedN a.b) ++ encN (foldedN a.n) ++ (encN a.data.length ++ a.data) from by unfold actB; simp [List.append_assoc])
  clear hk ha hb hn h64 hD hd
  go_enter Try.func23, Try.ntmps23
  go_upto_region 1 with fail
  generalize w.alloc (.cells #[.int .i64 a.kind, .int .i64 a.a, .int .i64 a.b, .int .i64 a.n, .slice dA dn dc] 47) = w1 at *
  generalize hhb : w.heap.size = hb at *
  have Hhb := Lib.hid hhb
  clear hhb
  have HB := Lib.hid HB.out
  rw [HkN.out] at HB
  have x0 : w1.cell? ⟨hb, 0, none⟩ = some (.int .i64 (a.kind.toNat : Nat)) := HB.out.cellAt rfl
  clear HkN
  generalize a.kind.toNat = K at *
  go_wp2_with fail
  refine (refput_any K w1 (by have := Hk.out; omega)).mono ?_
  rintro e w2 ⟨v2, rfl, hrow2, ho2, hown2⟩
  have HBx2 := Lib.hid (ho2.box HB.out id)
  have Hb2 := Lib.hid (show Bld w w2 v2 (encN K) from ⟨hrow2, HO.out.transN ho2, fun k hk => Nat.le_trans HO.out.size (hown2 k hk)⟩)
  have Hno2 := Lib.hid (show ¬ ownB v2 hb from fun h => by have := hown2 hb h; have := HB.out.lt; omega)
  have Hl2 := Lib.hid (show (encN K).length ≤ 9 from (encN_len K).2)
  clear hrow2 ho2 hown2 x0
  have x1 : w2.cell? ⟨hb, 1, none⟩ = some (.int .i64 a.a) := HBx2.out.cellAt rfl
  go_wp2_with fail
  refine (reffolded_any Ha.out w2).mono ?_
  rintro e y3 ⟨u3, rfl, hrow, ho, hown⟩
  have Hby3 := Lib.hid (ho.box HBx2.out id)
  have Hbb3 := Lib.hid (Hb2.out.only ho)
  have Hrw3 := Lib.hid hrow
  clear hrow ho hown x1
  go_wp2_with (at_builtin; refine wpList_bld w y3 rfl (.tmp 7) (.tmp 10) rfl _ _ rfl Hbb3.out _ _ rfl Hrw3.out (by have := Hl2.out; have := (encN_len (foldedN a.a)).2; omega) ?_; intro v3 w3 hb3 hk3; have Hb3 := Lib.hid hb3; have HBx3 := Lib.hid (hk3 _ _ _ Hby3.out Hno2.out).1; have Hno3 := Lib.hid (hk3 _ _ _ Hby3.out Hno2.out).2; have Hl3 := Lib.hid (show (encN K ++ encN (foldedN a.a)).length ≤ 18 from by have := Hl2.out; have := (encN_len (foldedN a.a)).2; rw [List.length_append]; omega); have x2 : w3.cell? ⟨hb, 2, none⟩ = some (.int .i64 a.b) := HBx3.out.cellAt rfl; clear hb3 hk3)
  refine (reffolded_any Hb.out w3).mono ?_
  rintro e y4 ⟨u4, rfl, hrow, ho, hown⟩
  have Hby4 := Lib.hid (ho.box HBx3.out id)
  have Hbb4 := Lib.hid (Hb3.out.only ho)
  have Hrw4 := Lib.hid hrow
  clear hrow ho hown x2
  go_wp2_with (at_builtin; refine wpList_bld w y4 rfl (.tmp 12) (.tmp 15) rfl _ _ rfl Hbb4.out _ _ rfl Hrw4.out (by have := Hl3.out; have := (encN_len (foldedN a.b)).2; omega) ?_; intro v4 w4 hb4 hk4; have Hb4 := Lib.hid hb4; have HBx4 := Lib.hid (hk4 _ _ _ Hby4.out Hno3.out).1; have Hno4 := Lib.hid (hk4 _ _ _ Hby4.out Hno3.out).2; have Hl4 := Lib.hid (show (encN K ++ encN (foldedN a.a) ++ encN (foldedN a.b)).length ≤ 27 from by have := Hl3.out; have := (encN_len (foldedN a.b)).2; rw [List.length_append]; omega); have x3 : w4.cell? ⟨hb, 3, none⟩ = some (.int .i64 a.n) := HBx4.out.cellAt rfl; clear hb4 hk4)
  refine (reffolded_any Hn.out w4).mono ?_
  rintro e y5 ⟨u5, rfl, hrow, ho, hown⟩
  have Hby5 := Lib.hid (ho.box HBx4.out id)
  have Hbb5 := Lib.hid (Hb4.out.only ho)
  have Hrw5 := Lib.hid hrow
  clear hrow ho hown x3
  go_wp2_with (at_builtin; refine wpList_bld w y5 rfl (.tmp 17) (.tmp 20) rfl _ _ rfl Hbb5.out _ _ rfl Hrw5.out (by have := Hl4.out; have := (encN_len (foldedN a.n)).2; omega) ?_; intro v5 w5 hb5 hk5; have Hb5 := Lib.hid hb5; have HBx5 := Lib.hid (hk5 _ _ _ Hby5.out Hno4.out).1; have Hno5 := Lib.hid (hk5 _ _ _ Hby5.out Hno4.out).2; have Hl5 := Lib.hid (show (encN K ++ encN (foldedN a.a) ++ encN (foldedN a.b) ++ encN (foldedN a.n)).length ≤ 36 from by have := Hl4.out; have := (encN_len (foldedN a.n)).2; rw [List.length_append]; omega); have x4 : w5.cell? ⟨hb, 4, none⟩ = some (.slice dA dn dc) := HBx5.out.cellAt rfl; clear hb5 hk5)
  have HT := Lib.hid (reftext_any (.slice dA dn dc) a.data w5 (HD.out.only Hb5.out.2.1 fun _ _ => id) (by have := H64.out; omega))
  refine HT.out.mono ?_
  rintro e y6 ⟨u6, rfl, hrow, ho, hown⟩
  have Hbb6 := Lib.hid (Hb5.out.only ho)
  have Hrw6 := Lib.hid hrow
  clear hrow ho hown x4
  go_wp2_with (at_builtin; refine wpList_bld w y6 rfl (.tmp 22) (.tmp 25) rfl _ _ rfl Hbb6.out _ _ rfl Hrw6.out (by have := Hl5.out; have := (encN_len a.data.length).2; have := H64.out; have h5 : (encN a.data.length ++ a.data).length = (encN a.data.length).length + a.data.length := List.length_append; omega) ?_; intro v6 w6 hb6 hk6; have Hb6 := Lib.hid hb6; clear hb6 hk6)
  go_ret
  exact ⟨_, rfl, by rw [Hend.out]; exact Hb6.out.1, Hb6.out.2.1, Hb6.out.2.2⟩
end
end Go.Proofs.Ytaofjnpmnaohcaa
