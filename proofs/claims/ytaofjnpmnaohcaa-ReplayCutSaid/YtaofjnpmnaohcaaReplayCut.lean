/- ReplayCut, walked: whatever the configuration, the acts and the place. Printed by rcutw.py. -/
import Derived.Test.YtaofjnpmnaohcaaReplayPuts
namespace Go.Proofs.Ytaofjnpmnaohcaa
open Go.RowKit
set_option linter.unusedVariables false
set_option linter.unusedSimpArgs false
theorem wpList_build_scr {ops : Array Oper} {rest : List Oper} {o : Oper} {a : Act} {w : World} {Q : Exit → Act → World → Prop} (c : CfgA) (A D : Option Addr) (n m k cd : Nat) (x y : Operand) (hgd : o.guard = none) (ho : o.op = .build 34 #[(0, x), (1, y)])
    (hx : a.eval x = .agg (cfgCells c (.slice A n m))) (hy : a.eval y = .slice D k cd) (h : wpList Try.prog ops Q rest (a.put o.dst (.agg (scrCells c (.slice A n m) (.slice D k cd)))) w) : wpList Try.prog ops Q (o :: rest) a w :=
  wpList_plain hgd fun K hK => by
    unfold Oper.wp
    rw [exec_build_scr c A D n m k cd _ o x y ho hx hy w]
    exact hK _ _ h
theorem Byt.take {w : World} {A : Option Addr} {n c : Nat} {l : List Int} (h : Byt w (.slice A n c) l) {r : Nat} (hr : r ≤ l.length) : Byt w (.slice A r c) (l.take r) := by
  obtain ⟨A', c', e, h1, h2, h3⟩ := h
  injection e with e1 e2 e3
  subst e1 e3
  have hl : (l.take r).length = r := by rw [List.length_take]; omega
  refine ⟨A, c, by rw [hl], by omega, by omega, fun j u hj => h3 j u ?_⟩
  rw [List.getElem?_map] at hj ⊢
  have hj' : j < r := by
    rcases Nat.lt_or_ge j r with h | h
    · exact h
    · rw [List.getElem?_eq_none (by omega)] at hj; cases hj
  rwa [List.getElem?_take_of_lt hj'] at hj
theorem scriptB_pos (c : CfgA) (l : List ActR) : 0 < (scriptB c l).length := by
  rw [script_len]
  unfold headB
  have := (encN_len (confB c).length).1
  rw [List.length_append]
  omega
section
set_option maxHeartbeats 4000000
set_option maxRecDepth 100000
theorem replayCut_walk (c : CfgA) (l : List ActR) (A B : Option Addr) (m k N : Nat) (w : World) (ha : HintsAt w A c.h.length m c.h) (hb : ActsAt w B l.length k l) (hd : ∀ i, i < l.length → IsB (l.getD i default).data) (hN : N < 65536) :
    Calls Try.prog 4 #[.agg (cfgCells c (.slice A c.h.length m)), .slice B l.length k, .int .u16 N] w (Ret (.bool true) Non w) := by
  have HO0 := Lib.hid (show Only Non w (w.alloc (.cells (cfgCells c (.slice A c.h.length m)) 25)) from (Only.refl Non w).alloc _)
  have HX0 := Lib.hid (Box.fresh w 25 (cfgCells c (.slice A c.h.length m)))
  have HA := Lib.hid ha
  have HB := Lib.hid hb
  have HD := Lib.hid hd
  have hkl := hb.cap
  have hkm := hb.max
  unfold maxLen at hkm
  clear ha hb hd
  go_enter Try.func4, Try.ntmps4
  go_upto_region 1 with fail
  change Code.wp _ _ _ _ (w.alloc (.cells (cfgCells c (.slice A c.h.length m)) 25))
  generalize w.alloc (.cells (cfgCells c (.slice A c.h.length m)) 25) = W0 at *
  generalize hxb : w.heap.size = xb at *
  have Hxb := Lib.hid hxb
  clear hxb
  go_wp2_with fail
  refine (wakes25_any W0).mono ?_
  rintro e w1 ⟨rfl, ho1⟩
  have HO1 := Lib.hid (HO0.out.trans ho1)
  have HX1 := Lib.hid (ho1.box HX0.out id)
  clear ho1
  have HLg := Lib.hid (long_any c l A B c.h.length l.length m k 100 w1 (HA.out.keep HO1.out) (HB.out.keep HO1.out))
  go_wp2_with (refine wpList_load_row rfl 25 _ rfl xb rfl 25 (cfgCells c (.slice A c.h.length m)) (0, 0) _ HX1.out Try.underlying25 rfl (by kernel_rfl) ?_)
  refine HLg.out.mono ?_
  rintro e w2 ⟨lb, rfl, hlb, ho2⟩
  have HO2 := Lib.hid (HO1.out.trans ho2)
  have HX2 := Lib.hid (ho2.box HX1.out id)
  clear ho2 hlb
  cases lb with
  | true =>
    go_wp2_with fail
    go_ret
    exact ⟨rfl, HO2.out⟩
  | false =>
    have HP := Lib.hid (put25_any A c.h.length m c B l.length k l w2 (HA.out.keep HO2.out) (HB.out.keep HO2.out))
    go_wp2_with (first
      | (refine wpList_load_row rfl 25 _ rfl xb rfl 25 (cfgCells c (.slice A c.h.length m)) (0, 0) _ HX2.out Try.underlying25 rfl (by kernel_rfl) ?_)
      | (refine wpList_build_scr c A B c.h.length m l.length k _ _ rfl rfl rfl rfl ?_))
    refine HP.out.mono ?_
    rintro e w4 ⟨hout, ho4⟩
    have HO4 := Lib.hid (HO2.out.trans ho4)
    rcases hout with ⟨hsp, v4, rfl, hb4⟩ | ⟨hsp, rfl⟩
    rotate_left
    · clear hsp
      go_wp2_with fail
      go_ret
      exact ⟨rfl, HO4.out⟩
    have HSp := Lib.hid hsp
    have Hsl := Lib.hid (scriptB_len hsp)
    have hpos := scriptB_pos c l
    obtain ⟨g4, o4, ⟨c4, e4, hc4⟩, _⟩ := (show ∃ g o, (∃ c4, v4 = .slice (some ⟨g, o, none⟩) (scriptB c l).length c4 ∧ (scriptB c l).length ≤ c4) ∧ True from by
      have hb := hb4
      obtain ⟨A4, c4, e, h1, _, _⟩ := hb4
      subst e
      obtain ⟨g, o, e2, _⟩ := hb.cellAt hpos
      subst e2
      exact ⟨g, o, ⟨c4, rfl, h1⟩, trivial⟩)
    subst e4
    have HB4 := Lib.hid hb4
    have hr := Nat.mod_lt N hpos
    have HGc := Lib.hid (get_cut (some ⟨g4, o4, none⟩) (N % (scriptB c l).length) c4 (N % (scriptB c l).length) c l w4 (hb4.take (Nat.le_of_lt hr)) hr hsp HD.out)
    clear hsp hb4 ho4
    generalize hsl : (scriptB c l).length = sl at *
    have Hsl2 := Lib.hid hsl
    clear hsl
    have t1 : Int.tmod (N : Int) (sl : Int) = ((N % sl : Nat) : Int) := by rw [Int.tmod_eq_emod_of_nonneg (by omega)]; rfl
    have t2 : (N : Int) % (sl : Int) = ((N % sl : Nat) : Int) := rfl
    have t3 : N % sl ≤ c4 := by omega
    generalize N % sl = r at *
    clear t2
    have hnz : ¬ (sl : Int) = 0 := by omega
    go_wp2_with fail
    refine HGc.out.mono ?_
    rintro e w5 ⟨rfl, ho5⟩
    have Ho45 := Lib.hid ((ho5.alloc (.cells z18 34)).setRow (g := w5.heap.size) (.inr ho5.size) z18)
    clear ho5 t1 t3 hr
    go_upto_region 9 with (refine wpList_store_row rfl 34 _ _ rfl w5.heap.size z18 rfl rfl 34 _ (Box.fresh w5 34 z18) (by kernel_rfl) rfl z18_one ?_; change wpList _ _ _ _ _ ((w5.alloc (.cells z18 34)).setRow w5.heap.size z18); generalize (w5.alloc (.cells z18 34)).setRow w5.heap.size z18 = W5 at *)
    have HO5 := Lib.hid (HO4.out.trans Ho45.out)
    have HSr := Lib.hid (show Src W5 (some ⟨g4, o4, none⟩) (bytes (scriptB c l)) from by
      obtain ⟨_, _, e, _, _, h3⟩ := HB4.out.only Ho45.out fun _ _ => id
      injection e with e1
      subst e1
      exact h3)
    have HR0 := Lib.hid (show Row 5 (W5.alloc (.cells #[] 5)) (.slice (some ⟨W5.heap.size, 0, none⟩) 0 0) (bytes []) from .inr ⟨_, 0, #[], rfl, Box.fresh _ _ _, Nat.le_refl _, Nat.le_refl _, Nat.zero_le _, rfl⟩)
    go_wp2_with (first
      | (at_builtin; refine wpList_more W5 _ rfl (.tmp 42) (.tmp 43) rfl (.slice (some ⟨W5.heap.size, 0, none⟩) 0 0) [] rfl HR0.out ((Only.refl Non W5).alloc _) (fun j hj => by rw [ownB_slice] at hj; omega) (some ⟨g4, o4, none⟩) sl c4 (scriptB c l) rfl Hsl2.out.symm (HSr.out.only ((Only.refl Non W5).alloc _) fun _ _ _ _ => id) (by have h1 := Hsl.out; have h2 := Hsl2.out; simp; omega) ?_
         intro v6 w6 hrow6 ho6 hown6
         have Hr6 := Lib.hid hrow6
         have Ho6 := Lib.hid ho6
         have Hn6 := Lib.hid hown6
         clear hrow6 ho6 hown6)
      | (at_builtin; refine wpList_more W5 _ rfl (.tmp 44) (.tmp 45) rfl v6 ([] ++ scriptB c l) rfl (Hr6.out.only ((Only.refl Non w6).alloc _) fun _ _ => id) (Ho6.out.alloc _) Hn6.out (some ⟨w6.heap.size, 0, none⟩) 1 1 [0] rfl rfl (byte_src w6 0) (by have h1 := Hsl.out; have h2 := Hsl2.out; simp; omega) ?_
         intro v7 w7 hrow7 ho7 hown7
         obtain ⟨A7, c7, e7, _, _⟩ := hrow7.shape
         have Hr7 := Lib.hid hrow7
         have HO7 := Lib.hid (HO5.out.trans ho7)
         clear hrow7 ho7 hown7
         generalize (bytes ([] ++ scriptB c l ++ [0])).length = L7 at e7
         subst e7))
    have HGm := Lib.hid (get_more A7 L7 c7 c l w7 (Row.byt (l := scriptB c l ++ [0]) Hr7.out (by have h1 := Hsl.out; have h2 := Hsl2.out; simp; omega)) HSp.out HD.out)
    refine HGm.out.mono ?_
    rintro e w8 ⟨rfl, ho8⟩
    have HO8 := Lib.hid (((HO7.out.trans ho8).alloc (.cells z18 34)).setRow (g := w8.heap.size) (.inr (HO7.out.trans ho8).size) z18)
    clear ho8
    go_wp2_with (refine wpList_store_row rfl 34 _ _ rfl w8.heap.size z18 rfl rfl 34 _ (Box.fresh w8 34 z18) (by kernel_rfl) rfl z18_one ?_; change wpList _ _ _ _ _ ((w8.alloc (.cells z18 34)).setRow w8.heap.size z18); generalize (w8.alloc (.cells z18 34)).setRow w8.heap.size z18 = W8 at *)
    go_ret
    exact ⟨rfl, HO8.out⟩
end
end Go.Proofs.Ytaofjnpmnaohcaa
