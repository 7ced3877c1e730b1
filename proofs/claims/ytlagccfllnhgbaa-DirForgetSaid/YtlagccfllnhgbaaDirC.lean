/- The law's own helpers over a directory and the document's table. -/
import Derived.Test.YtlagccfllnhgbaaDirB
namespace Go.Proofs.Ytlagccfllnhgbaa
open Go.RowKit
set_option linter.unusedVariables false

theorem sameInts_call (A B : Option Addr) (n m ca cb : Nat) (la lb : List Int) (w : World) (ha : IntsAt w (.slice A n ca) la) (hb : IntsAt w (.slice B m cb) lb) (h1 : n ≤ maxLen) (h2 : m ≤ maxLen) :
    Calls Try.prog 31 #[.slice A n ca, .slice B m cb] w fun e w' => e = .returned (.bool (decide (la = lb))) ∧ ∃ m, w.drewN m = w' := by
  obtain rfl := ha.len
  obtain rfl := hb.len
  exact sameInts_any A B ca cb la lb w ha hb h1 h2

def Ret (v : Value) (S : Nat → Prop) (w : World) (e : Ending) (w' : World) : Prop := e = .returned v ∧ Only S w w'

section
set_option maxHeartbeats 1000000
theorem wakes_tab : (((Tab.new 2 8).set 1 5 true).set 0 5 true).sharers 5 = [0, 1] := by decide
theorem wakes_t1 : (Tab.new 2 8).there 1 5 = true := by decide
theorem wakes_t2 : ((Tab.new 2 8).set 1 5 true).there 0 5 = true := by decide
theorem two_ints (w : World) (t : TypeId) (x y : Int) : IntsAt (w.alloc (.cells #[.int .i64 x, .int .i64 y] t)) (.slice (some ⟨w.heap.size, 0, none⟩) 2 2) [x, y] := by
  refine ⟨some ⟨w.heap.size, 0, none⟩, 2, rfl, by simp, by decide, fun i hi => ⟨_, _, rfl, ?_⟩⟩
  have hi' : i < 2 := hi
  rcases (show i = 0 ∨ i = 1 by omega) with rfl | rfl
  · exact (Box.fresh w t _).cellAt rfl
  · exact (Box.fresh w t _).cellAt rfl
theorem dwakes_any (w : World) : Calls Try.prog 25 #[] w (Ret (.bool true) Non w) := by
  have hnew := Lib.hid (new_any 2 8 w)
  go_enter Try.func25, Try.ntmps25
  go_wp2_with fail
  refine hnew.out.mono ?_
  rintro e w1 ⟨b, rfl, hb, hd, ho⟩
  have Hb := Lib.hid hb; clear hb
  have ok0 := Tab.Ok.new 2 8
  have h1 := add_any b _ ok0 1 5 w1 hd
  rw [wakes_t1] at h1
  have H1 := Lib.hid h1; clear h1
  go_wp2_with fail
  refine H1.out.mono ?_
  rintro e w2 ⟨rfl, hd2, ho2⟩
  have h2 := add_any b _ (ok0.set 1 5 true) 0 5 w2 hd2
  rw [wakes_t2] at h2
  have H2 := Lib.hid h2; clear h2
  simp only [thereE, if_true]
  go_wp2_with fail
  refine H2.out.mono ?_
  rintro e w3 ⟨rfl, hd3, ho3⟩
  have h3 := sharers_all b _ ((ok0.set 1 5 true).set 0 5 true) 5 w3 hd3
  rw [wakes_tab] at h3
  have H3 := Lib.hid h3; clear h3
  simp only [thereE, if_true]
  go_wp2_with fail
  refine H3.out.mono ?_
  rintro e w4 ⟨v, he, hown, ho4⟩
  obtain ⟨A, c, hv, hlc, hcm⟩ := hown.shape
  subst hv he
  have h5 := sameInts_call A (some ⟨w4.heap.size, 0, none⟩) 2 2 c 2 [0, 1] [0, 1] (w4.alloc (.cells #[.int .i64 0, .int .i64 1] 3)) (hown.alloc _).at (two_ints _ _ _ _) (by decide) (by decide)
  have H5 := Lib.hid h5
  clear h5
  simp only [List.length_cons, List.length_nil, Nat.zero_add, Nat.reduceAdd]
  go_wp2_with fail
  refine H5.out.mono ?_
  rintro e w5 ⟨rfl, m, rfl⟩
  simp only [decide_true]
  go_wp2_with fail
  go_ret
  refine ⟨rfl, ?_⟩
  have hbw := Hb.out
  exact ((((((ho.trans' ho2 fun g hg => .inr (by rw [show g = b from hg]; omega)).trans' ho3 fun g hg => .inr (by rw [show g = b from hg]; omega)).trans ho4)).alloc _).drewN m)

def Two (b g : Nat) : Nat → Prop := fun k => k = b ∨ k = g
def DoPost (b xb g : Nat) (s : Tab) (k c bl : Int) (w : World) (e : Ending) (w' : World) : Prop :=
  e = .returned (.bool true) ∧ DirAt w' b (s.act k c bl) ∧ RefAt w' xb g (s.act k c bl) ∧ Only (Two b g) w w'

theorem Two.l {b g k n : Nat} (h : Just b k) : Two b g k ∨ n ≤ k := .inl (.inl h)
theorem Two.r {b g k n : Nat} (h : Just g k) : Two b g k ∨ n ≤ k := .inl (.inr h)
theorem do_add (b xb g : Nat) (s : Tab) (hs : s.Ok) (c bl : Int) (w : World) (h : DirAt w b s) (hx : RefAt w xb g s) :
    Calls Try.prog 28 #[.pointer (some ⟨b, 0, none⟩), .pointer (some ⟨xb, 0, none⟩), .agg #[.int .i64 0, .int .i64 c, .int .i64 bl]] w (DoPost b xb g s 0 c bl w) := by
  have Hbg := Lib.hid (show b ≠ g from h.off hx.2 (by decide))
  have Hbx := Lib.hid (show b ≠ xb from h.off hx.1 (by decide))
  have Hxg := Lib.hid (show xb ≠ g from hx.1.off hx.2 (by decide))
  have hbw : b < w.heap.size := h.lt
  have ho0 : Only Non w (w.alloc (.cells #[.int .i64 0, .int .i64 c, .int .i64 bl] 61)) := (Only.refl _ _).alloc _
  have H1 := Lib.hid (add_any b s hs c bl _ (h.alloc (.cells #[.int .i64 0, .int .i64 c, .int .i64 bl] 61)))
  have hA : Box (w.alloc (.cells #[.int .i64 0, .int .i64 c, .int .i64 bl] 61)) w.heap.size 61 #[.int .i64 0, .int .i64 c, .int .i64 bl] := Box.fresh _ _ _
  go_enter Try.func28, Try.ntmps28
  go_wp2_with fail
  refine H1.out.mono ?_
  rintro e w1 ⟨rfl, hd, ho⟩
  have hA1 := ho.box hA (fun e => by have : w.heap.size = b := e; omega)
  have hx1 := (hx.only ho0 id id).only ho (fun e => Hbx.out e.symm) (fun e => Hbg.out e.symm)
  have c1 := hA1.cellAt (i := 1) rfl
  have c2 := hA1.cellAt (i := 2) rfl
  have h2 := rthere_any xb g s c bl w1 hx1
  have hact : s.act 0 c bl = s.set c bl true := rfl
  have Ho := Lib.hid (show Only (Two b g) w w1 from (ho0.mono (S' := Two b g) fun _ h => h.elim).trans' ho fun k hk => Two.l hk)
  cases hb : s.there c bl
  · rw [hb] at h2
    rw [s.set_none c bl true hb] at hd hact
    have H2 := Lib.hid h2; clear h2
    have Ha := Lib.hid hact; clear hact
    clear hb
    simp only [thereE, if_false, Bool.false_eq_true]
    go_wp2_with fail
    refine H2.out.mono ?_
    rintro e w' ⟨rfl, rfl⟩
    go_wp2_with fail
    go_ret
    exact ⟨rfl, by rw [Ha.out]; exact hd, by rw [Ha.out]; exact hx1, Ho.out⟩
  · rw [hb] at h2
    have H3 := Lib.hid (rset_any xb g s hs c bl true w1 hx1 hb)
    have H2 := Lib.hid h2; clear h2
    have Ha := Lib.hid hact; clear hact
    clear hb
    simp only [thereE, if_true]
    go_wp2_with fail
    refine H2.out.mono ?_
    rintro e w' ⟨rfl, rfl⟩
    go_wp2_with fail
    refine H3.out.mono ?_
    rintro e w2 ⟨rfl, hx2, ho2⟩
    go_wp2_with fail
    go_ret
    exact ⟨rfl, by rw [Ha.out]; exact ho2.box hd Hbg.out, by rw [Ha.out]; exact hx2, Ho.out.trans' ho2 fun k hk => Two.r hk⟩

theorem do_remove (b xb g : Nat) (s : Tab) (hs : s.Ok) (c bl : Int) (w : World) (h : DirAt w b s) (hx : RefAt w xb g s) :
    Calls Try.prog 28 #[.pointer (some ⟨b, 0, none⟩), .pointer (some ⟨xb, 0, none⟩), .agg #[.int .i64 1, .int .i64 c, .int .i64 bl]] w (DoPost b xb g s 1 c bl w) := by
  have Hbg := Lib.hid (show b ≠ g from h.off hx.2 (by decide))
  have Hbx := Lib.hid (show b ≠ xb from h.off hx.1 (by decide))
  have Hxg := Lib.hid (show xb ≠ g from hx.1.off hx.2 (by decide))
  have hbw : b < w.heap.size := h.lt
  have hgw : g < w.heap.size := hx.2.lt
  have ho0 : Only Non w (w.alloc (.cells #[.int .i64 1, .int .i64 c, .int .i64 bl] 61)) := (Only.refl _ _).alloc _
  have hA : Box (w.alloc (.cells #[.int .i64 1, .int .i64 c, .int .i64 bl] 61)) w.heap.size 61 #[.int .i64 1, .int .i64 c, .int .i64 bl] := Box.fresh _ _ _
  have h0 := rhas_any xb g s hs c bl _ (hx.only ho0 id id)
  have hact : s.act 1 c bl = s.set c bl false := rfl
  have hd0 : DirAt (w.alloc (.cells #[.int .i64 1, .int .i64 c, .int .i64 bl] 61)) b s := h.alloc _
  have hx0 := hx.only ho0 id id
  cases hb : s.has c bl
  · rw [hb] at h0
    rw [s.set_idle c bl hb] at hact
    have H0 := Lib.hid h0; clear h0
    have Ha := Lib.hid hact; clear hact
    have HB := Lib.hid hb; clear hb
    go_enter Try.func28, Try.ntmps28
    go_wp2_with fail
    refine H0.out.mono ?_
    rintro e w1 ⟨rfl, m, rfl⟩
    have H1 := Lib.hid (remove_any b s hs c bl _ (hd0.drewN m))
    go_wp2_with fail
    refine H1.out.mono ?_
    rintro e w2 ⟨rfl, hd, ho⟩
    simp only [HB.out]
    go_wp2_with fail
    go_ret
    refine ⟨rfl, ?_, ?_, ?_⟩
    · rw [Ha.out]; rw [s.set_idle c bl HB.out] at hd; exact hd
    · rw [Ha.out]; exact RefAt.only (w := (w.alloc _).drewN m) ⟨hx0.1.drewN m, hx0.2.drewN m⟩ ho (fun e => Hbx.out e.symm) (fun e => Hbg.out e.symm)
    · exact ((ho0.drewN m).mono (S' := Two b g) fun _ h => h.elim).trans' ho fun k hk => Two.l hk
  · rw [hb] at h0
    have hth : s.there c bl = true := by rw [Tab.has, Bool.and_eq_true] at hb; exact hb.1
    have H0 := Lib.hid h0; clear h0
    have Ha := Lib.hid hact; clear hact
    have HB := Lib.hid hb; clear hb
    have HT := Lib.hid hth; clear hth
    go_enter Try.func28, Try.ntmps28
    go_wp2_with fail
    refine H0.out.mono ?_
    rintro e w1 ⟨rfl, m, rfl⟩
    have H1 := Lib.hid (rset_any xb g s hs c bl false ((w.alloc (.cells #[.int .i64 1, .int .i64 c, .int .i64 bl] 61)).drewN m) ⟨hx0.1.drewN m, hx0.2.drewN m⟩ HT.out)
    go_wp2_with fail
    refine H1.out.mono ?_
    rintro e w2 ⟨rfl, hx2, ho2⟩
    have hd2 : DirAt w2 b s := ho2.box (hd0.drewN m) Hbg.out
    have hA2 := ho2.box (hA.drewN m) (fun e => by have : w.heap.size = g := e; omega)
    have c1 := hA2.cellAt (i := 1) rfl
    have c2 := hA2.cellAt (i := 2) rfl
    have H2 := Lib.hid (remove_any b s hs c bl w2 hd2)
    go_wp2_with fail
    refine H2.out.mono ?_
    rintro e w3 ⟨rfl, hd3, ho3⟩
    simp only [HB.out]
    go_wp2_with fail
    go_ret
    refine ⟨rfl, ?_, ?_, ?_⟩
    · rw [Ha.out]; exact hd3
    · rw [Ha.out]; exact hx2.only ho3 (fun e => Hbx.out e.symm) (fun e => Hbg.out e.symm)
    · exact (((ho0.drewN m).mono (S' := Two b g) fun _ h => h.elim).trans' ho2 fun k hk => Two.r hk).trans' ho3 fun k hk => Two.l hk

theorem do_other (b xb : Nat) (k c bl : Int) (w : World) (h0 : k ≠ 0) (h1 : k ≠ 1) (h2 : k ≠ 2) :
    Calls Try.prog 28 #[.pointer (some ⟨b, 0, none⟩), .pointer (some ⟨xb, 0, none⟩), .agg #[.int .i64 k, .int .i64 c, .int .i64 bl]] w (Ret (.bool true) Non w) := by
  have e0 : (k == 0) = false := by simp [h0]
  have e1 : (k == 1) = false := by simp [h1]
  have e2 : (k == 2) = false := by simp [h2]
  clear h0 h1 h2
  go_enter Try.func28, Try.ntmps28
  go_wp2_with fail
  go_ret
  exact ⟨rfl, (Only.refl _ _).alloc _⟩

def DoFRel (b xb g ab : Nat) (s : Tab) (c : Int) (v : Value) (w : World) (i : Value) (wr : World) : Prop :=
  ∃ k : Nat, k ≤ (s.of c).length ∧ i = .int .i64 k ∧ RefAt wr xb g (remTo s c ((s.of c).take k)) ∧ DirAt wr b s ∧ IntsAt wr v (s.of c) ∧ wr.cell? ⟨ab, 1, none⟩ = some (.int .i64 c) ∧ Only (Just g) w wr
theorem do_forget (b xb g : Nat) (s : Tab) (hs : s.Ok) (c bl : Int) (w : World) (h : DirAt w b s) (hx : RefAt w xb g s) :
    Calls Try.prog 28 #[.pointer (some ⟨b, 0, none⟩), .pointer (some ⟨xb, 0, none⟩), .agg #[.int .i64 2, .int .i64 c, .int .i64 bl]] w (DoPost b xb g s 2 c bl w) := by
  have Hbg := Lib.hid (show b ≠ g from h.off hx.2 (by decide))
  have Hbx := Lib.hid (show b ≠ xb from h.off hx.1 (by decide))
  have Hxg := Lib.hid (show xb ≠ g from hx.1.off hx.2 (by decide))
  have hbw : b < w.heap.size := h.lt
  have hgw : g < w.heap.size := hx.2.lt
  have ho0 : Only Non w (w.alloc (.cells #[.int .i64 2, .int .i64 c, .int .i64 bl] 61)) := (Only.refl _ _).alloc _
  have hA : Box (w.alloc (.cells #[.int .i64 2, .int .i64 c, .int .i64 bl] 61)) w.heap.size 61 #[.int .i64 2, .int .i64 c, .int .i64 bl] := Box.fresh _ _ _
  have hd0 : DirAt (w.alloc (.cells #[.int .i64 2, .int .i64 c, .int .i64 bl] 61)) b s := h.alloc _
  have H0 := Lib.hid (rof_any xb g s hs c _ (hx.only ho0 id id))
  have hx0 := hx.only ho0 id id
  have hact : s.act 2 c bl = s.forget c := rfl
  have Ha := Lib.hid hact; clear hact
  have hl32 := of_len s hs c
  go_enter Try.func28, Try.ntmps28
  go_wp2_with fail
  refine H0.out.mono ?_
  rintro e w1 ⟨v, he, hown, ho1⟩
  obtain ⟨A, cp, hv, hlc, hcm⟩ := hown.shape
  subst hv he
  have hfar : ∀ g', ownB (.slice A (s.of c).length cp) g' → g' ≠ g := fun g' hg' e => by have := (hown.lt g' hg').1; simp at this; omega
  have Hfar := Lib.hid hfar; clear hfar
  go_wp2_with fail
  go_loopw [70] (fun i wr => DoFRel b xb g w.heap.size s c (.slice A (s.of c).length cp) w1 i wr) (fun i _ => (s.of c).length - (intOf i).toNat)
  case atStart => exact ⟨0, Nat.zero_le _, rfl, hx0.only ho1 id id, ho1.box hd0 id, hown.at, (ho1.box hA id).cellAt rfl, Only.refl _ _⟩
  case round =>
    obtain ⟨k, hk, rfl, hx2, hd2, hat, c1, ho⟩ := hrel
    have Hat := Lib.hid hat
    have Hx2 := Lib.hid hx2
    have Hd2 := Lib.hid hd2
    by_cases hlt : k < (s.of c).length
    · obtain ⟨g', o, eA, hc⟩ := hat.cellAt hlt
      subst eA
      have hmem : (s.of c).getD k 0 ∈ s.of c := by simp [hlt]
      have hth : s.there c ((s.of c).getD k 0) = true := by
        have := (mem_of s c _).1 hmem
        rw [Tab.has, Bool.and_eq_true] at this; exact this.1
      have hcall2 := rset_any xb g _ (remTo_ok s hs c ((s.of c).take k)) c ((s.of c).getD k 0) false wr hx2 (by
        rw [Tab.there, (remTo_cn s c _).1, (remTo_cn s c _).2]; exact hth)
      have H2 := Lib.hid hcall2
      clear hcall2 hat hx2 hd2 hmem hth
      generalize hz : (s.of c).getD k 0 = z at *
      have Hz := Lib.hid hz; clear hz
      go_wp2_with (go_at_call 50; refine H2.out.mono ?_; rintro e w' ⟨rfl, hx3, ho2⟩)
      go_roundw
      case rel => exact ⟨k + 1, by omega, by go_num, by
        rw [List.take_succ_eq_append_getElem hlt, remTo_snoc, show (s.of c)[k] = z from by rw [← Hz.out]; simp [hlt]]
        exact hx3, ho2.box Hd2.out Hbg.out, Hat.out.keep ho2 (by
          intro g'' o' n' c'' e
          simp only [Value.slice.injEq, Option.some.injEq, Addr.mk.injEq] at e
          obtain ⟨⟨rfl, _⟩, _⟩ := e
          exact Hfar.out _ rfl), ho2.cell c1 (fun e => by have : w.heap.size = g := e; omega), ho.trans ho2⟩
      case measure => simp [intOf]; omega
    · have hk' : k = (s.of c).length := by omega
      have H3 := Lib.hid (forget_any b s hs c wr hd2)
      rw [hk', List.take_length, forget_eq s hs] at hx2
      have Hx3 := Lib.hid hx2
      clear hx2 hd2 hat hk'
      go_wp2_with fail
      refine H3.out.mono ?_
      rintro e w3 ⟨rfl, hd3, ho3⟩
      go_wp2_with fail
      go_ret
      refine ⟨by simp, ?_, ?_, ?_⟩
      · rw [Ha.out]; exact hd3
      · rw [Ha.out]; exact Hx3.out.only ho3 (fun e => Hbx.out e.symm) (fun e => Hbg.out e.symm)
      · exact (((ho0.mono (S' := Two b g) fun _ h => h.elim).trans' ho1 fun _ h => h.elim).trans' ho fun k hk => Two.r hk).trans' ho3 fun k hk => Two.l hk
theorem do_any (b xb g : Nat) (s : Tab) (hs : s.Ok) (k c bl : Int) (w : World) (h : DirAt w b s) (hx : RefAt w xb g s) :
    Calls Try.prog 28 #[.pointer (some ⟨b, 0, none⟩), .pointer (some ⟨xb, 0, none⟩), .agg #[.int .i64 k, .int .i64 c, .int .i64 bl]] w (DoPost b xb g s k c bl w) := by
  by_cases h0 : k = 0
  · subst h0; exact do_add b xb g s hs c bl w h hx
  · by_cases h1 : k = 1
    · subst h1; exact do_remove b xb g s hs c bl w h hx
    · by_cases h2 : k = 2
      · subst h2; exact do_forget b xb g s hs c bl w h hx
      · refine (do_other b xb k c bl w h0 h1 h2).mono ?_
        rintro e w' ⟨rfl, ho⟩
        have : s.act k c bl = s := by simp [Tab.act, h0, h1, h2]
        unfold DoPost
        rw [this]
        exact ⟨rfl, ho.box h id, hx.only ho id id, ho.mono fun _ h => h.elim⟩
end
end Go.Proofs.Ytlagccfllnhgbaa
