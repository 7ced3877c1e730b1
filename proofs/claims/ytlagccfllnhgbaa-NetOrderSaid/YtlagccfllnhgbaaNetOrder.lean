/- NetOrder. -/
import Derived.Test.YtlagccfllnhgbaaNetTurns
namespace Go.Proofs.Ytlagccfllnhgbaa
open Go.RowKit
set_option linter.unusedVariables false
set_option linter.unusedSimpArgs false
/-- a frame of the law's own: what lies in it are bytes -/
def OFr (w : World) (v : Value) : Prop := v = .slice none 0 0 ∨ ∃ g n c cur, v = .slice (some ⟨g, 0, none⟩) n c ∧ n ≤ c ∧ c ≤ maxLen ∧ Box w g 5 cur ∧ ∀ j, j < n → ∃ x : Int, cur[j]? = some (.int .u8 x)
theorem OFr.only {S : Nat → Prop} {w w' : World} {v : Value} (h : OFr w v) (ho : Only S w w') (hn : ∀ k, ownB v k → ¬ S k) : OFr w' v := by
  rcases h with h | ⟨g, n, c, cur, rfl, h1, h2, h3, h4⟩
  · exact .inl h
  · exact .inr ⟨g, n, c, cur, rfl, h1, h2, ho.box h3 (hn g (ownB_slice.2 rfl)), h4⟩
theorem OFr.of_row {w : World} {v : Value} {l : List Int} (h : Row 5 w v (l.map (Value.int .u8))) : OFr w v := by
  rcases h with ⟨h, _⟩ | ⟨g, cap, cur, rfl, hb, h1, h2, h3, h4⟩
  · exact .inl h
  · refine .inr ⟨g, _, cap, cur, rfl, h1, h3, hb, fun j hj => ?_⟩
    have e : (cur.toList.take (l.map (Value.int .u8)).length)[j]? = (l.map (Value.int .u8))[j]? := by rw [h4]
    rw [List.getElem?_take_of_lt hj, Array.getElem?_toList] at e
    rw [e, List.getElem?_map]
    rw [List.length_map] at hj
    exact ⟨_, by rw [List.getElem?_eq_getElem hj]; rfl⟩
theorem OFr.box {w : World} {v : Value} (h : OFr w v) {k : Nat} (hk : ownB v k) : ∃ cs, Box w k 5 cs := by
  rcases h with rfl | ⟨g, n, c, cur, rfl, _, _, h3, _⟩
  · exact (ownB_none hk).elim
  · rw [ownB_slice] at hk; subst hk; exact ⟨_, h3⟩
theorem OFr.store {w : World} {v : Value} (h : OFr w v) {g : Nat} {cs : Array Value} (hb : Box w g 5 cs) (i : Nat) (x : Int) : OFr (w.setCell ⟨g, i, none⟩ (.int .u8 x)) v := by
  rcases h with h | ⟨g', n, c, cur, rfl, h1, h2, h3, h4⟩
  · exact .inl h
  · by_cases e : g' = g
    · subst e
      refine .inr ⟨g', n, c, _, rfl, h1, h2, h3.store i _, fun j hj => ?_⟩
      obtain ⟨y, hy⟩ := h4 j hj
      rw [Array.getElem?_setIfInBounds]
      split
      · split
        · exact ⟨x, rfl⟩
        · rename_i e1 e2
          have := (Array.getElem?_eq_some_iff.1 hy).1
          omega
      · exact ⟨y, hy⟩
    · exact .inr ⟨g', n, c, _, rfl, h1, h2, h3.far e _, h4⟩
/-- the law's own list -/
structure OwnL (w : World) (D : Nat → Prop) (v : Value) (ovs : List Value) : Prop where
  row : Row 26 w v ovs
  fr : ∀ j, j < ovs.length → OFr w (ovs.getD j undef) ∧ ∀ k, ownB (ovs.getD j undef) k → D k
theorem OwnL.apart {w : World} {D : Nat → Prop} {v : Value} {ovs : List Value} (h : OwnL w D v ovs) {j : Nat} (hj : j < ovs.length) {k : Nat} (hk : ownB (ovs.getD j undef) k) : ¬ ownB v k := by
  intro hv
  obtain ⟨c1, b1⟩ := (h.fr j hj).1.box hk
  obtain ⟨c2, b2⟩ := h.row.box hv
  exact absurd (b1.same b2).1 (by decide)
theorem OwnL.store {w : World} {D : Nat → Prop} {v : Value} {ovs : List Value} (h : OwnL w D v ovs) {g : Nat} {cs : Array Value} (hb : Box w g 5 cs) (i : Nat) (x : Int) : OwnL (w.setCell ⟨g, i, none⟩ (.int .u8 x)) D v ovs := by
  refine ⟨h.row.only (S := Just g) (Only.setCell (S := Just g) (p := ⟨g, i, none⟩) (Only.refl _ _) (.inl rfl) _) fun k hk e => ?_, fun j hj => ⟨(h.fr j hj).1.store hb i x, (h.fr j hj).2⟩⟩
  obtain ⟨c2, b2⟩ := h.row.box hk
  cases e
  exact absurd (hb.same b2).1 (by decide)
theorem OwnL.only {S D : Nat → Prop} {w w' : World} {v : Value} {ovs : List Value} (h : OwnL w D v ovs) (ho : Only S w w') (h1 : ∀ k, ownB v k → ¬ S k) (h2 : ∀ k, D k → k < w.heap.size → ¬ S k) : OwnL w' D v ovs :=
  ⟨h.row.only ho h1, fun j hj => ⟨(h.fr j hj).1.only ho fun k hk => h2 k ((h.fr j hj).2 k hk) (by obtain ⟨c, b⟩ := (h.fr j hj).1.box hk; exact b.lt), (h.fr j hj).2⟩⟩
theorem OwnL.push {w wb w' : World} {m : Nat} {v v' f : Value} {ovs : List Value} (h : OwnL w (Abv m) v ovs) (hm : m ≤ w.heap.size) (h1 : Only Non w wb) (hf : OFr wb f) (hff : ∀ k, ownB f k → w.heap.size ≤ k)
    (hr : Row 26 w' v' (ovs ++ [f])) (ho : Only (ownB v) wb w') : OwnL w' (Abv m) v' (ovs ++ [f]) := by
  refine ⟨hr, fun j hj => ?_⟩
  have hO : Only (ownB v) w w' := (h1.mono fun _ h => h.elim).trans ho
  by_cases hjl : j < ovs.length
  · rw [getD_app_l _ _ _ _ hjl]
    exact ⟨(h.fr j hjl).1.only hO fun k hk => h.apart hjl hk, (h.fr j hjl).2⟩
  · rw [List.length_append, List.length_singleton] at hj
    obtain rfl : j = ovs.length := by omega
    rw [getD_app_r]
    exact ⟨hf.only ho fun k hk hv => by have := h.row.lt hv; have := hff k hk; omega, fun k hk => Nat.le_trans hm (hff k hk)⟩

def Mid (m mx : Nat) : Nat → Prop := fun k => m ≤ k ∧ k < mx
theorem OwnL.mid {w : World} {m : Nat} {v : Value} {ovs : List Value} (h : OwnL w (Abv m) v ovs) : OwnL w (Mid m w.heap.size) v ovs :=
  ⟨h.row, fun j hj => ⟨(h.fr j hj).1, fun k hk => ⟨(h.fr j hj).2 k hk, by obtain ⟨c, b⟩ := (h.fr j hj).1.box hk; exact b.lt⟩⟩⟩
theorem OFr.shape {w : World} {v : Value} (h : OFr w v) : ∃ A n c, v = .slice A n c ∧ n ≤ maxLen := by
  rcases h with rfl | ⟨g, n, c, cur, rfl, h1, h2, _⟩
  · exact ⟨_, _, _, rfl, Nat.zero_le _⟩
  · exact ⟨_, _, _, rfl, Nat.le_trans h1 h2⟩
theorem OFr.at_ {w : World} {A : Option Addr} {n c j : Nat} (h : OFr w (.slice A n c)) (hj : j < n) : ∃ g cs x, A = some ⟨g, 0, none⟩ ∧ Box w g 5 cs ∧ cs[j]? = some (.int .u8 x) := by
  rcases h with h | ⟨g, n', c', cur, e, _, _, h3, h4⟩
  · injection h with _ h; omega
  · injection e with e1 e2
    subst e1 e2
    obtain ⟨x, hx⟩ := h4 j hj
    exact ⟨g, cur, x, rfl, h3, hx⟩
def Or2 (n : Nat) (D : Nat → Prop) (v : Value) (ovs : List Value) (w3 : World) (i : Value) (wr : World) : Prop :=
  ∃ k : Nat, k ≤ n ∧ i = .int .i64 k ∧ OwnL wr D v ovs ∧ Only D w3 wr
def Or4 (base nb : Nat) (ls : List (List Int)) (w : World) (i : Value) (wr : World) : Prop :=
  ∃ (k : Nat) (F H : Nat → Prop), k ≤ ls.length ∧ i = .int .i64 k ∧ NetIs 75 wr base nb F H [[], ls.drop k] ∧ Only (Abv base) w wr
theorem send_two (ls : List (List Int)) (h : ls.length ≤ 400) : sendK [[], []] (Int.toNat 1) ls (min ls.length (400 - (Cont.row [[], []] (Int.toNat 1)).length)) = [[], ls] := by
  have : min ls.length (400 - (Cont.row [[], []] (Int.toNat 1)).length) = ls.length := by show min ls.length (400 - 0) = _; omega
  rw [this]
  show [[], [] ++ ls.take ls.length] = _
  rw [List.take_length]; rfl
theorem has_two (r : List (List Int)) (i : Int) (h0 : 0 ≤ i) (h1 : i < r.length) : hasC [[], r] 1 i = true := by
  have : thereC [[], r] 1 = true := rfl
  simp only [hasC, this, Bool.true_and, Bool.and_eq_true, decide_eq_true_eq]
  exact ⟨h0, h1⟩
def Or1 (ls : List (List Int)) (m : Nat) (w2 : World) (v i : Value) (wr : World) : Prop :=
  ∃ (k : Nat) (ovs : List Value), k ≤ ls.length ∧ i = .int .i64 k ∧ ovs.length = k ∧ OwnL wr (Abv m) v ovs ∧ (∀ k, ownB v k → m ≤ k) ∧ (∀ j, j < k → Byt wr (ovs.getD j undef) (ls.getD j [])) ∧ Only (Abv m) w2 wr
theorem new_two : List.replicate (newN 2) ([] : List (List Int)) = [[], []] := rfl
section
set_option maxHeartbeats 4000000
theorem netOrder_walk (A : Option Addr) (cp : Nat) (fs : List Value) (ls : List (List Int)) (w : World) (hfin : Fin w w.heap.size A fs ls) (hcp : ls.length ≤ cp) (hcm : cp ≤ maxLen) (h2 : ls.length ≤ 400) :
    Calls Try.prog 3 #[.slice A ls.length cp] w (Ret (.bool true) Non w) := by
  have HW := fun w => Lib.hid (nwakes w)
  have Hfin := Lib.hid hfin; clear hfin
  have Hls := Lib.hid (rfl : ls.length = ls.length)
  generalize hn : ls.length = n at *
  have Hn := Lib.hid hn; clear hn Hls
  have Hcm := Lib.hid hcm
  unfold maxLen at hcm
  have hz1 : ¬ 400 < (n : Int) := by omega
  go_enter Try.func3, Try.ntmps3
  go_wp2_with fail
  refine (HW _).out.mono ?_
  rintro e w1 ⟨rfl, ho⟩
  have Ho1 := Lib.hid (show Only (Abv w.heap.size) w w1 from ho.mono fun _ h => h.elim); clear ho
  have HN := Lib.hid (nnew_any 2 w.heap.size w1 Ho1.out.size)
  go_wp2_with fail
  refine HN.out.mono ?_
  rintro e w2 ⟨nb, F, rfl, hn, hF, ho⟩
  have Ho2 := Lib.hid (show Only (Abv w.heap.size) w w2 from Ho1.out.trans' ho fun _ h => h.elim); clear ho
  rw [new_two] at hn
  have Hnn := Lib.hid hn
  have HFm := Lib.hid (show ∀ k, F k → k < w2.heap.size from fun k hk => hn.flt hk)
  clear hn hF HN
  have Hst := Lib.hid (show Or1 ls w2.heap.size w2 (.slice none 0 0) (.int .i64 0) w2 from ⟨0, [], Nat.zero_le _, rfl, rfl, ⟨Row.nil_ _ _, fun j hj => absurd hj (Nat.not_lt_zero _)⟩, fun k hk => (ownB_none hk).elim, fun j hj => absurd hj (Nat.not_lt_zero _), Only.refl _ _⟩)
  have hms := Ho2.out.size
  generalize hm : w2.heap.size = m at *
  have Hm := Lib.hid hm; clear hm
  go_wp2_with fail
  go_loopw [4, 21] (fun v i wr => Or1 ls m w2 v i wr) (fun _ i _ => n - (intOf i).toNat)
  case atStart => exact Hst.out
  case round =>
    clear Hst
    obtain ⟨k, ovs, hk, rfl, hol, hown, hlo, hbyt, ho⟩ := hrel
    by_cases hlt : k < n
    · have hf7 := Hfin.out.only (Ho2.out.trans' ho fun b hb => .inl (Nat.le_trans hms hb)) fun _ h => h
      obtain ⟨g, o, eA, hc⟩ := hf7.src.at_ (i := k) (by rw [hf7.len, Hn.out]; omega) undef
      have hbf := hf7.byt k (by rw [Hn.out]; omega)
      have Hbf := Lib.hid hbf
      subst eA
      obtain ⟨Af, cf, ef, hf1, hf2, hf3⟩ := hbf
      rw [ef] at hc Hbf
      have Ho := Lib.hid ho
      obtain ⟨Av, cv, ev, hv1, hv2⟩ := hown.row.shape
      have Hown := Lib.hid hown
      have Hlo := Lib.hid hlo
      have Hbyt := Lib.hid hbyt
      clear hf7 ef hown hlo hbyt ho
      have Hol := Lib.hid hol
      rw [hol] at ev hv1
      subst ev
      clear hol
      generalize hlf : ls.getD k [] = lf at *
      have Hlf := Lib.hid hlf; clear hlf
      have hal : Only Non wr (wr.alloc (.cells #[] 5)) := (Only.refl _ _).alloc _
      have hc2 := hal.cell hc id
      have hrow : Row 5 (wr.alloc (.cells #[] 5)) (.slice (some ⟨wr.heap.size, 0, none⟩) 0 0) [] := .inr ⟨_, 0, #[], rfl, Box.fresh _ _ _, Nat.le_refl _, Nat.le_refl _, Nat.zero_le _, rfl⟩
      have hsrc : Src (wr.alloc (.cells #[] 5)) Af (lf.map (Value.int .u8)) := hf3.only hal fun _ _ _ _ => id
      have hone : ∀ u ∈ lf.map (Value.int .u8), u.oneCell' = true := by
        intro u hu
        obtain ⟨z, _, rfl⟩ := List.mem_map.1 hu
        rfl
      have hb1 : ([] : List Value).length + (lf.map (Value.int .u8)).length ≤ maxLen := by simp only [List.length_nil, List.length_map, maxLen]; omega
      have hb2 : (([] : List Value).length + (lf.map (Value.int .u8)).length) * 1 ≤ 140737488355328 := by simp only [List.length_nil, List.length_map]; omega
      have Hb1 := Lib.hid hb1; clear hb1
      have Hb2 := Lib.hid hb2; clear hb2
      have Hone := Lib.hid hone; clear hone
      have hln : lf.length = (lf.map (Value.int .u8)).length := by simp
      have Hln := Lib.hid hln; clear hln
      have Hrow := Lib.hid hrow
      have Hsrc := Lib.hid hsrc
      have Hof := Lib.hid fun w v => @OFr.of_row w v lf
      have HByt := Lib.hid fun w v => @Row.byt w v lf
      have hf2' := Lib.hid hf2
      generalize lf.length = nf at *
      generalize lf.map (Value.int .u8) = vs at *
      clear hrow hsrc hal hf1 hf2 hf3 hc
      go_wp2_with (first
        | (at_builtin; refine wpList_append_row _ rfl (.tmp 25) (.tmp 29) 26 5 rfl byteInfo rfl Try.underlying26 (.slice (some ⟨wr.heap.size, 0, none⟩) 0 0) [] rfl Hrow.out Af nf cf vs rfl Hln.out Hsrc.out Hone.out Hb1.out Hb2.out ?_
           intro v' wq hrow' hgrow hown' _
           rw [List.nil_append] at hrow'
           have Hof1 := Lib.hid (Hof.out wq v' hrow')
           have HByt1 := Lib.hid (HByt.out wq v' hrow' hf2'.out)
           have Hnew := Lib.hid (show ∀ k, ownB v' k → wr.heap.size ≤ k from fun k hk => (hown' k hk).elim (fun h => by rw [ownB_slice] at h; omega) fun h => by rw [World.size_alloc] at h; omega)
           have How1 := Lib.hid (show Only Non wr wq from ((Only.refl Non _).alloc _).trans' hgrow (fun k hk => .inr (by rw [ownB_slice] at hk; omega)))
           obtain ⟨A2, c2, hv2, hs2⟩ := hrow'.shape
           clear hs2 hrow' hgrow hown' hc2
           generalize vs.length = nv at *
           subst hv2
           have Hq := Lib.hid (Hown.out.row.only (How1.out.alloc (.cells #[.slice A2 nv c2] 26)) fun _ _ => id)
           have Hq1 := Lib.hid (show ovs.length + [Value.slice A2 nv c2].length ≤ maxLen by simp only [List.length_singleton, Hol.out, maxLen]; omega)
           have Hq2 := Lib.hid (show (ovs.length + [Value.slice A2 nv c2].length) * 24 ≤ 140737488355328 by simp only [List.length_singleton, Hol.out]; omega))
        | (at_builtin; refine wpList_append_row _ rfl (.tmp 24) (.tmp 31) 22 26 rfl frameInfo rfl Try.underlying22 (.slice Av k cv) ovs rfl Hq.out (some ⟨wq.heap.size, 0, none⟩) 1 1 [.slice A2 nv c2] rfl rfl (one_src _ _ _) (by simp [Value.oneCell']) Hq1.out Hq2.out ?_
           intro v4 w4 hrow4 hgrow4 hown4 _
           have Hrow4 := Lib.hid hrow4
           have Hgrow4 := Lib.hid hgrow4
           have Hown4 := Lib.hid hown4
           clear hrow4 hgrow4 hown4))
      refine ⟨⟨k + 1, ovs ++ [.slice A2 nv c2], by rw [Hn.out]; omega, by simp, by simp [Hol.out], Hown.out.push (wb := wq.alloc (.cells #[.slice A2 nv c2] 26)) (by rw [← Hm.out]; exact Ho.out.size) (How1.out.alloc _) (Hof1.out.only ((Only.refl Non _).alloc _) fun _ _ => id) Hnew.out Hrow4.out Hgrow4.out, ?_, ?_, ?_⟩, by simp [intOf]; omega⟩
      · intro x hx
        have hsz := Ho.out.size
        have hs1 := How1.out.size
        rw [Hm.out] at hsz
        rcases Hown4.out x hx with h | h
        · exact Hlo.out x h
        · rw [World.size_alloc] at h; omega
      · intro j hj
        have hO : Only (ownB (.slice Av k cv)) wr w4 := ((How1.out.alloc _).mono fun _ h => h.elim).trans Hgrow4.out
        by_cases hjl : j < ovs.length
        · rw [getD_app_l _ _ _ _ hjl]
          exact (Hbyt.out j (by rw [← Hol.out]; exact hjl)).only hO fun x hx => Hown.out.apart hjl hx
        · have ejk : j = ovs.length := by rw [Hol.out]; rw [Hol.out] at hjl; omega
          have e2 : ls.getD j [] = lf := by rw [ejk, Hol.out]; exact Hlf.out
          rw [e2, ejk, getD_app_r]
          exact (HByt1.out.only ((Only.refl Non _).alloc _) fun _ _ => id).only Hgrow4.out fun x hx hv => by
            have := Hown.out.row.lt hv
            have := Hnew.out x hx
            omega
      · refine Ho.out.trans' (((How1.out.alloc _).mono fun _ h => h.elim).trans Hgrow4.out) fun x hx => .inl (Hlo.out x hx)
    · have hkn : k = n := by rw [Hn.out] at hk; omega
      clear hlt hk
      subst hkn
      obtain ⟨Av, cv, ev, hv1, hv2⟩ := hown.row.shape
      have hszr := ho.size
      rw [Hm.out] at hszr
      have hfr : Frs wr F Av ovs ls := by
        refine ⟨by rw [hol, Hn.out], ?_, ?_, fun j hj => hbyt j (by rw [Hn.out] at hj; exact hj), ?_⟩
        · have h := hown.row
          rw [ev] at h
          exact h.srcOf.2
        · intro _ g o e _ hf
          have h1 := HFm.out g hf
          have h2 := hlo g (by rw [ev, e, ownB_slice])
          omega
        · intro j hj _ x hx _ hf
          have h1 := HFm.out x hf
          have h2 : m ≤ x := (hown.fr j (by rw [hol, ← Hn.out]; exact hj)).2 x hx
          omega
      have hmid := hown.mid
      generalize hmx : wr.heap.size = mx at *
      have Hmid := Lib.hid hmid
      have hnr := Hnn.out.only ho (fun x hx hb => by have := HFm.out x hx; have : m ≤ x := hb; omega) (fun _ h => h.elim)
      have HoB := Lib.hid (show Only (Abv w.heap.size) w wr from Ho2.out.trans' ho fun b hb => .inl (Nat.le_trans hms hb))
      rw [hol] at ev hv1
      subst ev
      have HS := nsend_yes w.heap.size nb F _ _ 1 Av cv ovs ls wr hnr (by rw [hmx]; omega) hfr (by rw [Hn.out]; omega) (by rw [Hn.out]; exact hv1) hv2 (by decide) (by decide)
      have hmn : min ls.length (400 - (Cont.row [[], []] (Int.toNat 1)).length) = ls.length := by show min ls.length (400 - 0) = _; rw [Hn.out]; omega
      rw [send_two ls (by rw [Hn.out]; exact h2), hmn, Hn.out] at HS
      have HS' := Lib.hid HS
      have Hlo := Lib.hid hlo
      have Hmx := Lib.hid hmx
      have Hnr := Lib.hid hnr
      unfold maxLen at hv2
      clear HS hmn hfr hmid hown hlo hbyt ho hnr hmx Hnn Ho2
      go_wp2_with fail
      refine HS'.out.mono ?_
      rintro e w3 ⟨rfl, F3, H3, hn3, hF3, hH3, ho3⟩
      have Hn3 := Lib.hid hn3
      have Hown3 := Lib.hid (Hmid.out.only ho3 (fun x hx hf => by have := Hlo.out x hx; have := HFm.out x hf; omega) (fun x hx _ hf => by have := hx.1; have := HFm.out x hf; omega))
      have Ho3 := Lib.hid (show Only (Abv w.heap.size) w w3 from HoB.out.trans (Hnr.out.abv ho3))
      have HF3 := Lib.hid (show ∀ x, F3 x → ¬ Mid m mx x from fun x hx hb => have hb : m ≤ x ∧ x < mx := hb; (hF3 x hx).elim (fun h => by have := HFm.out x h; omega) fun h => by rw [Hmx.out] at h; omega)
      have HH3 := Lib.hid (show ∀ x, H3 x → ¬ Mid m mx x from fun x hx hb => have hb : m ≤ x ∧ x < mx := hb; (hH3 x hx).elim id fun h => by rw [Hmx.out] at h; omega)
      clear HS' hn3 hF3 hH3 ho3
      have HDb := Lib.hid (show ∀ x, Mid m mx x → w.heap.size ≤ x from fun x hx => Nat.le_trans hms hx.1)
      generalize Mid m mx = D at *
      go_wp2_with fail
      go_loopw [42] (fun i wr => Or2 k D (.slice Av k cv) ovs w3 i wr) (fun i _ => k - (intOf i).toNat)
      case atStart => exact ⟨0, Nat.zero_le _, rfl, Hown3.out, Only.refl _ _⟩
      case round =>
        obtain ⟨q, hq, rfl, hown, ho⟩ := hrel
        by_cases hlt : q < k
        · have hfrq := (hown.fr q (by rw [hol]; exact hlt)).1
          obtain ⟨g, c', ev, hc, _⟩ := hown.row.cell (i := q) (u := ovs.getD q undef) (by simp [hol, hlt])
          obtain ⟨Af, nf, cf, ef, hnf⟩ := hfrq.shape
          have Hfq := Lib.hid ef
          rw [ef] at hc hfrq
          have eA : Av = some ⟨g, 0, none⟩ := by injection ev
          subst eA
          unfold maxLen at hnf
          have Hown := Lib.hid hown
          have Ho := Lib.hid ho
          clear ev ef hown ho hfrq
          go_wp2_with fail
          clear hc
          rename_i wq _ _ _ _ _ _ _ _ _ _ _
          go_loopw [50] (fun i wr => Or2 nf D (.slice (some ⟨g, 0, none⟩) k cv) ovs w3 i wr) (fun i _ => nf - (intOf i).toNat)
          case atStart => exact ⟨0, Nat.zero_le _, rfl, Hown.out, Ho.out⟩
          case round =>
            obtain ⟨x, hx, rfl, hown, ho⟩ := hrel
            by_cases hlx : x < nf
            · obtain ⟨g2, c2, ev2, hc, _⟩ := hown.row.cell (i := q) (u := ovs.getD q undef) (by simp [hol, hlt])
              rw [Hfq.out] at hc
              have eA : g2 = g := by injection ev2 with e1; injection e1 with e1; injection e1 with e1; exact e1.symm
              subst eA
              have hfrq := (hown.fr q (by rw [hol]; exact hlt))
              rw [Hfq.out] at hfrq
              obtain ⟨gf, cs, y, ef, hb, hy⟩ := hfrq.1.at_ hlx
              subst ef
              have hcf : wr.cell? ⟨gf, x, none⟩ = some (.int .u8 y) := hb.cellAt hy
              have hff : wr.frozen? ⟨gf, x, none⟩ = false := hb.free x
              have hD := Lib.hid (hfrq.2 gf (by rw [ownB_slice]))
              have Hown := Lib.hid hown
              have Ho := Lib.hid ho
              have Hb := Lib.hid hb
              clear ev2 hfrq hb hy hown ho
              go_wp2_with fail
              refine ⟨⟨x + 1, by omega, by go_num, Hown.out.store Hb.out _ _, ?_⟩, by simp [intOf]; omega⟩
              exact Only.setCell (p := ⟨gf, x, none⟩) Ho.out (.inl hD.out) _
            · have hxn : x = nf := by omega
              subst hxn
              have Hown := Lib.hid hown
              have Ho := Lib.hid ho
              clear hown ho
              go_wp2_with fail
              exact ⟨⟨q + 1, by omega, by go_num, Hown.out, Ho.out⟩, by simp [intOf]; omega⟩
        · have hqk : q = k := by omega
          clear hlt hq
          subst hqk
          have Hn4 := Lib.hid (Hn3.out.only ho (fun z hz => HF3.out z hz) (fun z hz => HH3.out z hz))
          have Ho4 := Lib.hid (show Only (Abv w.heap.size) w wr from Ho3.out.trans' ho fun b hb => .inl (HDb.out b hb))
          clear ho hown hms hszr
          go_wp2_with fail
          go_loopw [66] (fun i wr => Or4 w.heap.size nb ls w i wr) (fun i _ => q - (intOf i).toNat)
          case atStart => exact ⟨0, F3, H3, Nat.zero_le _, rfl, Hn4.out, Ho4.out⟩
          case round =>
            obtain ⟨x, F5, H5, hx, rfl, hn5, ho5⟩ := hrel
            rw [Hn.out] at hx
            by_cases hlx : x < q
            · have HT := Lib.hid (ntake_yes w.heap.size nb F5 H5 _ 1 0 _ hn5 ho5.size (has_two _ 0 (Int.le_refl 0) (by rw [List.length_drop, Hn.out]; omega)))
              have Hn5 := Lib.hid hn5
              have Ho5 := Lib.hid ho5
              clear hn5 ho5
              go_wp2_with fail
              refine HT.out.mono ?_
              rintro e w6 ⟨v, rfl, hv, hvk, F6, H6, hn6, hF6, hH6, ho6⟩
              have e0 : (Cont.row [[], ls.drop x] (Int.toNat 1)).getD (Int.toNat 0) [] = ls.getD x [] := by
                show (ls.drop x).getD 0 [] = _
                simp [List.getD, List.getElem?_drop]
              have e1 : [[], ls.drop x].set (Int.toNat 1) ((Cont.row [[], ls.drop x] (Int.toNat 1)).eraseIdx (Int.toNat 0)) = [[], ls.drop (x + 1)] := by
                show [[], (ls.drop x).eraseIdx 0] = _
                rw [show (ls.drop x).eraseIdx 0 = (ls.drop x).tail from by cases ls.drop x <;> rfl, List.tail_drop]
              rw [e0] at hv
              rw [e1] at hn6
              have Ho6 := Lib.hid (show Only (Abv w.heap.size) w w6 from Ho5.out.trans (Hn5.out.abv ho6))
              have Hn6 := Lib.hid hn6
              have Hv := Lib.hid hv
              have hf6 := Hfin.out.only Ho6.out fun _ h => h
              obtain ⟨gq, oq, eA, hc⟩ := hf6.src.at_ (i := x) (by rw [hf6.len, Hn.out]; omega) undef
              have Hbf := Lib.hid (hf6.byt x (by rw [Hn.out]; omega))
              subst eA
              generalize fs.getD x undef = f at *
              obtain ⟨Av2, cv2, ev2, _⟩ := hv
              have HM := Lib.hid (same_any v f _ _ w6 Hv.out Hbf.out)
              rw [decide_eq_true (rfl : ls.getD x [] = ls.getD x [])] at HM
              generalize (ls.getD x []).length = nv2 at *
              subst ev2
              clear HT e0 e1 hF6 hH6 ho6 hvk hn6 hf6
              go_wp2_with fail
              refine HM.out.mono ?_
              rintro e w7 ⟨rfl, mm, e7⟩
              have k7 : Only Non w6 w7 := by rw [← e7]; exact (Only.refl _ _).drewN mm
              have Ho7 := Lib.hid (show Only (Abv w.heap.size) w w7 from Ho6.out.transN k7)
              have Hn7 := Lib.hid (Hn6.out.keep k7)
              clear e7 k7 hc
              go_wp2_with fail
              exact ⟨⟨x + 1, F6, H6, by rw [Hn.out]; omega, by go_num, Hn7.out, Ho7.out⟩, by simp [intOf]; omega⟩
            · have hxq : x = q := by omega
              clear hlx hx
              subst hxq
              rw [List.drop_eq_nil_of_le (by rw [Hn.out]; exact Nat.le_refl _)] at hn5
              have HT := Lib.hid (ntake_no _ 1 0 5 _ (by decide) (nwrong_any nb w.heap.size F5 H5 _ 1 0 _ hn5))
              have HA := Lib.hid (nall_any nb w.heap.size F5 H5 _ _ hn5)
              have Ho5 := Lib.hid ho5
              clear hn5 ho5
              go_wp2_with fail
              refine HT.out.mono ?_
              rintro e w6 ⟨rfl, rfl⟩
              go_wp2_with fail
              refine HA.out.mono ?_
              rintro e w6 ⟨rfl, rfl⟩
              go_wp2_with fail
              go_ret
              exact ⟨rfl, Ho5.out.mono fun b hb => .inr hb⟩
theorem netOrder_skip (A : Option Addr) (cp n : Nat) (w : World) (hn : 400 < n) (hm : n ≤ maxLen) :
    Calls Try.prog 3 #[.slice A n cp] w (Ret (.bool true) Non w) := by
  have HW := fun w => Lib.hid (nwakes w)
  unfold maxLen at hm
  have hz1 : 400 < (n : Int) := by omega
  go_enter Try.func3, Try.ntmps3
  go_wp2_with fail
  refine (HW _).out.mono ?_
  rintro e w1 ⟨rfl, ho⟩
  have Ho1 := Lib.hid ho; clear ho
  go_wp2_with fail
  go_ret
  exact ⟨rfl, Ho1.out⟩
end
end Go.Proofs.Ytlagccfllnhgbaa
