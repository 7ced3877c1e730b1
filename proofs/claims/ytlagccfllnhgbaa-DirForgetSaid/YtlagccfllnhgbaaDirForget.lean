/- DirForget: the walk. -/
import Derived.Test.YtlagccfllnhgbaaDirC
import Derived.Test.YtlagccfllnhgbaaOpen
namespace Go.Proofs.Ytlagccfllnhgbaa
open Go.RowKit
set_option linter.unusedVariables false

def FStart (b xb : Nat) (A : Option Addr) (L : List (Int × Int × Int)) (w : World) (i : Value) (wr : World) : Prop :=
  ∃ (k : Nat) (s : Tab), k ≤ L.length ∧ i = .int .i64 k ∧ s.Ok ∧ DirAt wr b s ∧ RefAt wr xb (xb + 1) s ∧ Only Non w wr
section
set_option maxHeartbeats 1000000
theorem dirForget_long (A : Option Addr) (n c : Nat) (cl : Int) (w : World) (h : 100 < n) (hn : n ≤ maxLen) :
    Calls Try.prog 8 #[.slice A n c, .int .u8 cl] w (Ret (.bool true) Non w) := by
  unfold maxLen at hn
  have H0 := Lib.hid (dwakes_any w)
  go_enter Try.func8, Try.ntmps8
  go_wp2_with fail
  refine H0.out.mono ?_
  rintro e w1 ⟨rfl, ho⟩
  go_wp2_with fail
  go_ret
  exact ⟨rfl, ho⟩
theorem dirForget_walk (A : Option Addr) (c : Nat) (L : List (Int × Int × Int)) (cl : Int) (w : World) (h : L.length ≤ 100) (hL : Trips w A L) (h0 : 0 ≤ cl) (h255 : cl ≤ 255) :
    Calls Try.prog 8 #[.slice A L.length c, .int .u8 cl] w (Ret (.bool true) Non w) := by
  have H0 := Lib.hid (dwakes_any w)
  go_enter Try.func8, Try.ntmps8
  go_wp2_with fail
  refine H0.out.mono ?_
  rintro e w1 ⟨rfl, ho1⟩
  go_wp2_with fail
  refine (new_any 4 32 w1).mono ?_
  rintro e w2 ⟨b, rfl, hb, hd, ho2⟩
  have hb1 : w1.heap.size ≤ b := by omega
  clear hb
  go_wp2_with fail
  refine (rnew_any 4 32 w2).mono ?_
  rintro e w3 ⟨xb, rfl, hxb, hx, ho3⟩
  have hxb1 : w2.heap.size ≤ xb := by omega
  clear hxb
  have hd3 := ho3.box hd id
  have hok := Tab.Ok.new 4 32
  have Ho3 := Lib.hid ((ho1.trans ho2).trans ho3)
  have hsz1 := ho1.size
  have hsz2 := ho2.size
  have hbw : w.heap.size ≤ b := by omega
  have hxw : w.heap.size ≤ xb := by omega
  clear hb1 hxb1 hd hsz1 hsz2 ho1 ho2 ho3
  go_wp2_with fail
  go_loopw [21] (fun i wr => FStart b xb A L w i wr) (fun i _ => L.length - (intOf i).toNat)
  case atStart => exact ⟨0, _, Nat.zero_le _, rfl, hok, hd3, hx, Ho3.out⟩
  case round =>
    obtain ⟨k, s, hk, rfl, hs, hd, hx, ho⟩ := hrel
    by_cases hlt : k < L.length
    · obtain ⟨g, o, eA, hg, h1, h2, h3⟩ := (hL.keep ho fun _ _ => id) k hlt
      subst eA
      generalize (L.getD k (0, 0, 0)).1 = ak at *
      generalize (L.getD k (0, 0, 0)).2.1 = ac at *
      generalize (L.getD k (0, 0, 0)).2.2 = ab at *
      have hal : Only Non wr (wr.alloc (.cells #[.int .i64 ak, .int .i64 ac, .int .i64 ab] 61)) := (Only.refl _ _).alloc _
      have H1 := Lib.hid (do_any b xb (xb + 1) s hs ak ac ab _ (hal.box hd id) (hx.only hal id id))
      have Ho := Lib.hid (ho.trans hal)
      go_wp2_with fail
      refine H1.out.mono ?_
      rintro e w' ⟨rfl, hd', hx', ho'⟩
      go_wp2_with fail
      go_roundw
      case rel => exact ⟨k + 1, s.act ak ac ab, by omega, by go_num, hs.act ak ac ab, hd', hx', Ho.out.trans' ho' fun j hj => .inr (by rcases hj with rfl | rfl <;> omega)⟩
      case measure => simp [intOf]; omega
    · have Ho := Lib.hid ho
      have hbx : xb ≠ b := hx.1.off hd (by decide)
      have Hbg := Lib.hid (show xb + 1 ≠ b from hx.2.off hd (by decide))
      have Hbx := Lib.hid hbx
      clear hL hbx
      have hsz := ho.size
      have H1 := Lib.hid (of_any b s hs (cl % 4) wr hd)
      have Hself := Lib.hid (of_forget_self s (cl % 4))
      have Hoth := Lib.hid (of_forget_other s (cl % 4))
      go_wp2_with fail
      refine H1.out.mono ?_
      rintro e w4 ⟨v, he, hown, ho4⟩
      obtain ⟨A4, c4, hv, hl4, hm4⟩ := hown.shape
      subst hv he
      have hd4 := ho4.box hd id
      have hx4 := hx.only ho4 id id
      have hl32 := of_len s hs (cl % 4)
      have H2 := Lib.hid (forget_any b s hs (cl % 4) w4 hd4)
      have Ho4 := Lib.hid (ho.trans' ho4 (fun _ h => h.elim))
      generalize (s.of (cl % 4)).length = n4 at *
      go_wp2_with fail
      refine H2.out.mono ?_
      rintro e w5 ⟨rfl, hd5, ho5⟩
      have hx5 := hx4.only ho5 (fun e => Hbx.out e) (fun e => Hbg.out e)
      have Ho5 := Lib.hid (Ho4.out.trans' ho5 (fun j hj => .inr (by rw [show j = b from hj]; omega)))
      have H3 := of_any b (s.forget (cl % 4)) (hs.forget _) (cl % 4) w5 hd5
      rw [Hself.out] at H3
      have H3' := Lib.hid H3; clear H3
      go_wp2_with fail
      refine H3'.out.mono ?_
      rintro e w6 ⟨v, he, hown6, ho6⟩
      obtain ⟨A6, c6, hv, hl6, hm6⟩ := hown6.shape
      subst hv he
      have hd6 := ho6.box hd5 id
      have hx6 := hx5.only ho6 id id
      have Ho6 := Lib.hid (Ho5.out.trans' ho6 (fun _ h => h.elim))
      simp only [List.length_nil]
      clear hown hown6 ho4 ho5 ho6 hd hd4 hd5 hx hx4 hx5 ho
      go_wp2_with fail
      go_loopw [49] (fun i wr => ∃ k : Nat, k ≤ 4 ∧ i = .int .i64 k ∧ DirAt wr b (s.forget (cl % 4)) ∧ RefAt wr xb (xb + 1) s ∧ Only Non w wr) (fun i _ => 4 - (intOf i).toNat)
      case atStart => exact ⟨0, by omega, rfl, hd6, hx6, Ho6.out⟩
      case round =>
        obtain ⟨k, hk, rfl, hd, hx, ho⟩ := hrel
        by_cases hlt : k < 4
        · by_cases hkc : (k : Int) = cl % 4
          · have hne : ((k : Int) != cl % 4) = false := by simp [hkc]
            have Ho' := Lib.hid ho
            clear hkc
            go_wp2_with fail
            go_roundw
            case rel => exact ⟨k + 1, by omega, by go_num, hd, hx, Ho'.out⟩
            case measure => simp [intOf]; omega
          · have hne : ((k : Int) != cl % 4) = true := by simp [hkc]
            have Hsame := Lib.hid (Hoth.out k hkc)
            clear hkc
            have H7 := Lib.hid (of_any b (s.forget (cl % 4)) (hs.forget _) k _ hd)
            go_wp2_with fail
            refine H7.out.mono ?_
            rintro e w7 ⟨v, he, hown7, ho7⟩
            obtain ⟨A7, c7, hv, hl7, hm7⟩ := hown7.shape
            have H8 := Lib.hid (rof_any xb (xb + 1) s hs k _ (hx.only ho7 id id))
            have hd7 := ho7.box hd id
            have hx7 := hx.only ho7 id id
            subst hv he
            go_wp2_with fail
            refine H8.out.mono ?_
            rintro e w8 ⟨v, he, hown8, ho8⟩
            obtain ⟨A8, c8, hv, hl8, hm8⟩ := hown8.shape
            have hown7' := hown7.only ho8 (fun _ _ h => h)
            have hd8 := ho8.box hd7 id
            have hx8 := hx7.only ho8 id id
            have h32a := of_len s hs k
            have h32b := of_len (s.forget (cl % 4)) (hs.forget _) k
            have hat7 := hown7'.at
            have hat8 := hown8.at
            subst hv he
            have H9 := sameInts_call A7 A8 _ _ c7 c8 _ _ w8 hat7 hat8 (by unfold maxLen; omega) (by unfold maxLen; omega)
            rw [show (decide ((s.forget (cl % 4)).of k = s.of k)) = true from by simp [Hsame.out]] at H9
            have H9' := Lib.hid H9
            have Ho8 := Lib.hid ((ho.trans ho7).trans ho8)
            clear H9 hat7 hat8 hown7 hown7' hown8 hd hx hd7 hx7 ho7 ho8 ho
            go_wp2_with fail
            refine H9'.out.mono ?_
            rintro e w' ⟨rfl, m, rfl⟩
            go_wp2_with fail
            go_roundw
            case rel => exact ⟨k + 1, by omega, by go_num, hd8.drewN m, ⟨hx8.1.drewN m, hx8.2.drewN m⟩, Ho8.out.drewN m⟩
            case measure => simp [intOf]; omega
        · have Ho' := Lib.hid ho
          go_wp2_with fail
          go_ret
          exact ⟨rfl, Ho'.out⟩
end
end Go.Proofs.Ytlagccfllnhgbaa
